/-
 Lemmas: S10,W9,S5,S6,W10,Wi.
-/
import Derived.Test.YtbiacfkiakddiaaGreatOak
import Derived.Test.YtbiacfkiakddiaaGreatOal
set_option linter.unusedVariables false
set_option linter.unusedSimpArgs false
namespace Go.Proofs.YtbiacfkiakddiaaGreat
open Go.RowKit Go.Fl
theorem n20:((2:Int) = 0) = False:=by decide
theorem n21:((2:Int) = 1) = False:=by decide
theorem n10:((1:Int) = 0) = False:=by decide
theorem n01:((0:Int) = 1) = False:=by decide

set_option maxRecDepth 100000 in
set_option maxHeartbeats 1000000 in
theorem s_turned_0 (x y z t:Nat) (w:World) :
  Calls Tryz.prog 275 #[V3 x y z,.int .i64 0,F1 t] w (RetV (cn .f32 x) (turn1 (cn .f32 t) (cn .f32 y) (cn .f32 z)) (turn2 (cn .f32 t) (cn .f32 y) (cn .f32 z)) w):=by
 go_enter Tryz.func275,Tryz.ntmps275
 go_upto_region 1 with (fail)
 have Wb:Below w.heap.size w ((w.alloc (.cells #[F1 x,F1 y,F1 z] 38)).alloc (.cells #[F1 0,F1 0,F1 0] 38)):=(by repeat' (first | exact Below.refl _ _ | exact Nat.le_refl _ | refine below_drewN ?_ _ | refine Below.alloc ?_ (by simp <;> omega) _ | refine Below.setCell ?_ (by simp <;> omega) _ | refine below_step ?_ (by assumption)))

 have hkept:Kept [(⟨w.heap.size,0,none⟩,F1 x),(⟨w.heap.size,1,none⟩,F1 y),(⟨w.heap.size,2,none⟩,F1 z),(⟨w.heap.size + 1,0,none⟩,F1 0),(⟨w.heap.size + 1,1,none⟩,F1 0),(⟨w.heap.size + 1,2,none⟩,F1 0)] [⟨w.heap.size + 1,0,none⟩,⟨w.heap.size + 1,1,none⟩,⟨w.heap.size + 1,2,none⟩] ((w.alloc (.cells #[F1 x,F1 y,F1 z] 38)).alloc (.cells #[F1 0,F1 0,F1 0] 38)):=by
  simp only [Kept,ka,kb,kc,kd,ke,kfa,kga];simp
 generalize (w.alloc (.cells #[F1 x,F1 y,F1 z] 38)).alloc (.cells #[F1 0,F1 0,F1 0] 38) = W1 at Wb hkept ⊢
 have hK:=hkept
 simp only [Kept,ka,kb,kc,kd,ke,kfa,kga] at hK
 go_wp2_with (first
  | (go_at_call 189;refine (s_sine_any _ _).mono ?_;rintro _ w1 ⟨r1,rfl,hr1,hb1⟩;(first | have hkept:=keep hkept hb1 | have hkept:=keep (kept_drewN hkept _) hb1 | have hkept:=keep (kept_drewN (kept_drewN hkept _) _) hb1 | have hkept:=keep (kept_drewN (kept_drewN (kept_drewN hkept _) _) _) hb1);clear hK;have hK:=hkept;simp only [Kept,ka,kb,kc,kd,ke,kfa,kga] at hK)
  | (go_at_call 142;refine (s_pick_any _ _ _ _ _).mono ?_;rintro _ w1 ⟨rfl,hb1⟩;(first | have hkept:=keep hkept hb1 | have hkept:=keep (kept_drewN hkept _) hb1 | have hkept:=keep (kept_drewN (kept_drewN hkept _) _) hb1 | have hkept:=keep (kept_drewN (kept_drewN (kept_drewN hkept _) _) _) hb1);clear hK;have hK:=hkept;simp only [Kept,ka,kb,kc,kd,ke,kfa,kga] at hK)
  | (go_at_call 143;refine (s_set_any _ _ _ _ _ _).mono ?_;rintro _ w1 ⟨rfl,hb1⟩;(first | have hkept:=keep hkept hb1 | have hkept:=keep (kept_drewN hkept _) hb1 | have hkept:=keep (kept_drewN (kept_drewN hkept _) _) hb1 | have hkept:=keep (kept_drewN (kept_drewN (kept_drewN hkept _) _) _) hb1);clear hK;have hK:=hkept;simp only [Kept,ka,kb,kc,kd,ke,kfa,kga] at hK)
  | (refine wp_bin rfl _ _ _ _ _ rfl _ _ _ rfl rfl rfl ?_;intro r n hr))
 exact bodyPost_ret (v:=.agg #[F1 _,F1 _,F1 _]) (by simp [results,Tryz.results275,go_sem,hK];exact ⟨rfl,rfl,rfl⟩) rfl ⟨_,_,_,rfl,by simp only [setX,setY,setZ,pickF,n20,n21,n10,n01,if_true,if_false,turn1,turn2,cn_c6, *];done,by simp only [setX,setY,setZ,pickF,n20,n21,n10,n01,if_true,if_false,turn1,turn2,cn_c6, *];done,by simp only [setX,setY,setZ,pickF,n20,n21,n10,n01,if_true,if_false,turn1,turn2,cn_c6, *];done,(by repeat' (first | exact Below.refl _ _ | exact Nat.le_refl _ | refine below_drewN ?_ _ | refine Below.alloc ?_ (by simp <;> omega) _ | refine Below.setCell ?_ (by simp <;> omega) _ | refine below_step ?_ (by assumption)))⟩

set_option maxRecDepth 100000 in
set_option maxHeartbeats 1000000 in
theorem s_turned_1 (x y z t:Nat) (w:World) :
  Calls Tryz.prog 275 #[V3 x y z,.int .i64 1,F1 t] w (RetV (turn2 (cn .f32 t) (cn .f32 z) (cn .f32 x)) (cn .f32 y) (turn1 (cn .f32 t) (cn .f32 z) (cn .f32 x)) w):=by
 go_enter Tryz.func275,Tryz.ntmps275
 go_upto_region 1 with (fail)
 have Wb:Below w.heap.size w ((w.alloc (.cells #[F1 x,F1 y,F1 z] 38)).alloc (.cells #[F1 0,F1 0,F1 0] 38)):=(by repeat' (first | exact Below.refl _ _ | exact Nat.le_refl _ | refine below_drewN ?_ _ | refine Below.alloc ?_ (by simp <;> omega) _ | refine Below.setCell ?_ (by simp <;> omega) _ | refine below_step ?_ (by assumption)))

 have hkept:Kept [(⟨w.heap.size,0,none⟩,F1 x),(⟨w.heap.size,1,none⟩,F1 y),(⟨w.heap.size,2,none⟩,F1 z),(⟨w.heap.size + 1,0,none⟩,F1 0),(⟨w.heap.size + 1,1,none⟩,F1 0),(⟨w.heap.size + 1,2,none⟩,F1 0)] [⟨w.heap.size + 1,0,none⟩,⟨w.heap.size + 1,1,none⟩,⟨w.heap.size + 1,2,none⟩] ((w.alloc (.cells #[F1 x,F1 y,F1 z] 38)).alloc (.cells #[F1 0,F1 0,F1 0] 38)):=by
  simp only [Kept,ka,kb,kc,kd,ke,kfa,kga];simp
 generalize (w.alloc (.cells #[F1 x,F1 y,F1 z] 38)).alloc (.cells #[F1 0,F1 0,F1 0] 38) = W1 at Wb hkept ⊢
 have hK:=hkept
 simp only [Kept,ka,kb,kc,kd,ke,kfa,kga] at hK
 go_wp2_with (first
  | (go_at_call 189;refine (s_sine_any _ _).mono ?_;rintro _ w1 ⟨r1,rfl,hr1,hb1⟩;(first | have hkept:=keep hkept hb1 | have hkept:=keep (kept_drewN hkept _) hb1 | have hkept:=keep (kept_drewN (kept_drewN hkept _) _) hb1 | have hkept:=keep (kept_drewN (kept_drewN (kept_drewN hkept _) _) _) hb1);clear hK;have hK:=hkept;simp only [Kept,ka,kb,kc,kd,ke,kfa,kga] at hK)
  | (go_at_call 142;refine (s_pick_any _ _ _ _ _).mono ?_;rintro _ w1 ⟨rfl,hb1⟩;(first | have hkept:=keep hkept hb1 | have hkept:=keep (kept_drewN hkept _) hb1 | have hkept:=keep (kept_drewN (kept_drewN hkept _) _) hb1 | have hkept:=keep (kept_drewN (kept_drewN (kept_drewN hkept _) _) _) hb1);clear hK;have hK:=hkept;simp only [Kept,ka,kb,kc,kd,ke,kfa,kga] at hK)
  | (go_at_call 143;refine (s_set_any _ _ _ _ _ _).mono ?_;rintro _ w1 ⟨rfl,hb1⟩;(first | have hkept:=keep hkept hb1 | have hkept:=keep (kept_drewN hkept _) hb1 | have hkept:=keep (kept_drewN (kept_drewN hkept _) _) hb1 | have hkept:=keep (kept_drewN (kept_drewN (kept_drewN hkept _) _) _) hb1);clear hK;have hK:=hkept;simp only [Kept,ka,kb,kc,kd,ke,kfa,kga] at hK)
  | (refine wp_bin rfl _ _ _ _ _ rfl _ _ _ rfl rfl rfl ?_;intro r n hr))
 exact bodyPost_ret (v:=.agg #[F1 _,F1 _,F1 _]) (by simp [results,Tryz.results275,go_sem,hK];exact ⟨rfl,rfl,rfl⟩) rfl ⟨_,_,_,rfl,by simp only [setX,setY,setZ,pickF,n20,n21,n10,n01,if_true,if_false,turn1,turn2,cn_c6, *];done,by simp only [setX,setY,setZ,pickF,n20,n21,n10,n01,if_true,if_false,turn1,turn2,cn_c6, *];done,by simp only [setX,setY,setZ,pickF,n20,n21,n10,n01,if_true,if_false,turn1,turn2,cn_c6, *];done,(by repeat' (first | exact Below.refl _ _ | exact Nat.le_refl _ | refine below_drewN ?_ _ | refine Below.alloc ?_ (by simp <;> omega) _ | refine Below.setCell ?_ (by simp <;> omega) _ | refine below_step ?_ (by assumption)))⟩

set_option maxRecDepth 100000 in
set_option maxHeartbeats 1000000 in
theorem s_turned_2 (x y z t:Nat) (w:World) :
  Calls Tryz.prog 275 #[V3 x y z,.int .i64 2,F1 t] w (RetV (turn1 (cn .f32 t) (cn .f32 x) (cn .f32 y)) (turn2 (cn .f32 t) (cn .f32 x) (cn .f32 y)) (cn .f32 z) w):=by
 go_enter Tryz.func275,Tryz.ntmps275
 go_upto_region 1 with (fail)
 have Wb:Below w.heap.size w ((w.alloc (.cells #[F1 x,F1 y,F1 z] 38)).alloc (.cells #[F1 0,F1 0,F1 0] 38)):=(by repeat' (first | exact Below.refl _ _ | exact Nat.le_refl _ | refine below_drewN ?_ _ | refine Below.alloc ?_ (by simp <;> omega) _ | refine Below.setCell ?_ (by simp <;> omega) _ | refine below_step ?_ (by assumption)))

 have hkept:Kept [(⟨w.heap.size,0,none⟩,F1 x),(⟨w.heap.size,1,none⟩,F1 y),(⟨w.heap.size,2,none⟩,F1 z),(⟨w.heap.size + 1,0,none⟩,F1 0),(⟨w.heap.size + 1,1,none⟩,F1 0),(⟨w.heap.size + 1,2,none⟩,F1 0)] [⟨w.heap.size + 1,0,none⟩,⟨w.heap.size + 1,1,none⟩,⟨w.heap.size + 1,2,none⟩] ((w.alloc (.cells #[F1 x,F1 y,F1 z] 38)).alloc (.cells #[F1 0,F1 0,F1 0] 38)):=by
  simp only [Kept,ka,kb,kc,kd,ke,kfa,kga];simp
 generalize (w.alloc (.cells #[F1 x,F1 y,F1 z] 38)).alloc (.cells #[F1 0,F1 0,F1 0] 38) = W1 at Wb hkept ⊢
 have hK:=hkept
 simp only [Kept,ka,kb,kc,kd,ke,kfa,kga] at hK
 go_wp2_with (first
  | (go_at_call 189;refine (s_sine_any _ _).mono ?_;rintro _ w1 ⟨r1,rfl,hr1,hb1⟩;(first | have hkept:=keep hkept hb1 | have hkept:=keep (kept_drewN hkept _) hb1 | have hkept:=keep (kept_drewN (kept_drewN hkept _) _) hb1 | have hkept:=keep (kept_drewN (kept_drewN (kept_drewN hkept _) _) _) hb1);clear hK;have hK:=hkept;simp only [Kept,ka,kb,kc,kd,ke,kfa,kga] at hK)
  | (go_at_call 142;refine (s_pick_any _ _ _ _ _).mono ?_;rintro _ w1 ⟨rfl,hb1⟩;(first | have hkept:=keep hkept hb1 | have hkept:=keep (kept_drewN hkept _) hb1 | have hkept:=keep (kept_drewN (kept_drewN hkept _) _) hb1 | have hkept:=keep (kept_drewN (kept_drewN (kept_drewN hkept _) _) _) hb1);clear hK;have hK:=hkept;simp only [Kept,ka,kb,kc,kd,ke,kfa,kga] at hK)
  | (go_at_call 143;refine (s_set_any _ _ _ _ _ _).mono ?_;rintro _ w1 ⟨rfl,hb1⟩;(first | have hkept:=keep hkept hb1 | have hkept:=keep (kept_drewN hkept _) hb1 | have hkept:=keep (kept_drewN (kept_drewN hkept _) _) hb1 | have hkept:=keep (kept_drewN (kept_drewN (kept_drewN hkept _) _) _) hb1);clear hK;have hK:=hkept;simp only [Kept,ka,kb,kc,kd,ke,kfa,kga] at hK)
  | (refine wp_bin rfl _ _ _ _ _ rfl _ _ _ rfl rfl rfl ?_;intro r n hr))
 exact bodyPost_ret (v:=.agg #[F1 _,F1 _,F1 _]) (by simp [results,Tryz.results275,go_sem,hK];exact ⟨rfl,rfl,rfl⟩) rfl ⟨_,_,_,rfl,by simp only [setX,setY,setZ,pickF,n20,n21,n10,n01,if_true,if_false,turn1,turn2,cn_c6, *];done,by simp only [setX,setY,setZ,pickF,n20,n21,n10,n01,if_true,if_false,turn1,turn2,cn_c6, *];done,by simp only [setX,setY,setZ,pickF,n20,n21,n10,n01,if_true,if_false,turn1,turn2,cn_c6, *];done,(by repeat' (first | exact Below.refl _ _ | exact Nat.le_refl _ | refine below_drewN ?_ _ | refine Below.alloc ?_ (by simp <;> omega) _ | refine Below.setCell ?_ (by simp <;> omega) _ | refine below_step ?_ (by assumption)))⟩
end Go.Proofs.YtbiacfkiakddiaaGreat

namespace Go.Proofs.YtbiacfkiakddiaaGreat
open Go.RowKit Go.Fl
/-- Numbers,children,axis,sign of a kind. -/
def ruleT:Nat → Nat × Nat × Bool × Nat
 | 0 => (1,0,false,1) | 1 => (3,0,false,1) | 2 => (2,0,false,1) | 3 => (2,0,false,1) | 4 => (4,0,false,0)
 | 5 => (0,2,false,0) | 6 => (0,2,false,0) | 7 => (0,2,false,0) | 8 => (1,2,false,2)
 | 9 => (3,1,false,0) | 10 => (1,1,false,2) | 11 => (3,1,false,2) | 12 => (1,1,true,0) | 13 => (0,1,true,0) | 14 => (1,1,true,2) | 15 => (1,1,false,0) | 16 => (1,1,false,1)
 | _ => (0,0,false,0)
def kindOk (k:Int):Bool:=decide (0 ≤ k) && decide (k ≤ 16)
def ruleF (k:Int):Nat × Nat × Bool × Nat:=if kindOk k then ruleT k.toNat else (0,0,false,0)
abbrev I64 (n:Nat):Value:=.int .i64 (n:Int)
def ruleV (k:Int):Value:=.agg #[I64 (ruleF k).1,I64 (ruleF k).2.1,.bool (ruleF k).2.2.1,I64 (ruleF k).2.2.2]

set_option maxRecDepth 100000 in
set_option maxHeartbeats 4000000 in
theorem rule_any (k:Int) (w:World):Calls Tryz.prog 155 #[.int .i64 k] w (fun e w' => e = .returned (.tuple #[ruleV k,.bool (kindOk k)]) ∧ Below w.heap.size w w'):=by
 by_cases hk:0 ≤ k ∧ k ≤ 16
 ·have:k = 0 ∨ k = 1 ∨ k = 2 ∨ k = 3 ∨ k = 4 ∨ k = 5 ∨ k = 6 ∨ k = 7 ∨ k = 8 ∨ k = 9 ∨ k = 10 ∨ k = 11 ∨ k = 12 ∨ k = 13 ∨ k = 14 ∨ k = 15 ∨ k = 16:=by omega
  rcases this with h | h | h | h | h | h | h | h | h | h | h | h | h | h | h | h | h
  all_goals
   subst h
   clear hk
   go_enter Tryz.func155,Tryz.ntmps155
   go_wp2_with fail
   refine ⟨rfl,.tuple #[ruleV _,.bool true],?_,rfl,(by repeat' (first | exact Below.refl _ _ | exact Nat.le_refl _ | refine below_drewN ?_ _ | refine Below.alloc ?_ (by simp <;> omega) _ | refine Below.setCell ?_ (by simp <;> omega) _ | refine below_step ?_ (by assumption)))
⟩
   ·simp [results,Tryz.results155,go_sem,List.mapM_cons,Array.mapM_eq_mapM_toList,ruleV,ruleF,kindOk,ruleT,I64];try rfl
 ·have hk':kindOk k = false:=by
   simp only [kindOk,Bool.and_eq_false_iff,decide_eq_false_iff_not];omega
  have hr:ruleV k = .agg #[I64 0,I64 0,.bool false,I64 0]:=by simp only [ruleV,ruleF,hk'];rfl
  rw [hr,hk']
  have hn:∀ c:Nat,c ≤ 16 → k ≠ (c:Int):=fun c hc h => hk (by omega)
  have h0:=hn 0 (by omega);have h1:=hn 1 (by omega);have h2:=hn 2 (by omega);have h3:=hn 3 (by omega);have h4:=hn 4 (by omega);have h5:=hn 5 (by omega);have h6:=hn 6 (by omega);have h7:=hn 7 (by omega);have h8:=hn 8 (by omega);have h9:=hn 9 (by omega);have h10:=hn 10 (by omega);have h11:=hn 11 (by omega);have h12:=hn 12 (by omega);have h13:=hn 13 (by omega);have h14:=hn 14 (by omega);have h15:=hn 15 (by omega);have h16:=hn 16 (by omega)
  clear hn hk hk' hr
  simp only [Int.natCast_zero,Int.natCast_one,Int.cast_ofNat_Int] at h0 h1 h2 h3 h4 h5 h6 h7 h8 h9 h10 h11 h12 h13 h14 h15 h16
  go_enter Tryz.func155,Tryz.ntmps155
  go_wp2_with fail
  exact bodyPost_ret (v:=.tuple #[.agg #[I64 0,I64 0,.bool false,I64 0],.bool false]) (by simp [results,Tryz.results155,go_sem];first | done | rfl) rfl ⟨rfl,(by repeat' (first | exact Below.refl _ _ | exact Nat.le_refl _ | refine below_drewN ?_ _ | refine Below.alloc ?_ (by simp <;> omega) _ | refine Below.setCell ?_ (by simp <;> omega) _ | refine below_step ?_ (by assumption)))⟩

end Go.Proofs.YtbiacfkiakddiaaGreat

namespace Go.Proofs.YtbiacfkiakddiaaGreat
open Go.RowKit Go.Fl
set_option maxHeartbeats 400000 in
theorem s_in_any (a b c:Int) (w:World) :
  Calls Tryz.prog 71 #[.int .i64 a,.int .i64 b,.int .i64 c] w (fun e w' => e = .returned (.bool (decide (b ≤ a) && decide (a ≤ c))) ∧ w = w'):=by
 by_cases h1:b ≤ a
 ·by_cases h2:a ≤ c
  all_goals
   go_enter Tryz.func71,Tryz.ntmps71
   go_wp2_with fail
   go_ret
   exact ⟨by simp [h1,h2],rfl⟩
 ·go_enter Tryz.func71,Tryz.ntmps71
  go_wp2_with fail
  go_ret
  exact ⟨by rw [decide_eq_false (by omega:¬ b ≤ a)];rfl,rfl⟩

theorem s_leaf_any (k:Int) (w:World):Calls Tryz.prog 119 #[.int .i64 k] w (fun e w' => e = .returned (.bool (decide (0 ≤ k) && decide (k ≤ 4))) ∧ w = w'):=by
 go_enter Tryz.func119,Tryz.ntmps119
 go_wp2_with (go_at_call 71;refine (s_in_any _ _ _ _).mono ?_;rintro _ w2 ⟨rfl,rfl⟩)
 go_ret
 exact ⟨rfl,rfl⟩

theorem s_two_any (k:Int) (w:World):Calls Tryz.prog 120 #[.int .i64 k] w (fun e w' => e = .returned (.bool (decide (5 ≤ k) && decide (k ≤ 8))) ∧ w = w'):=by
 go_enter Tryz.func120,Tryz.ntmps120
 go_wp2_with (go_at_call 71;refine (s_in_any _ _ _ _).mono ?_;rintro _ w2 ⟨rfl,rfl⟩)
 go_ret
 exact ⟨rfl,rfl⟩

theorem s_axis_any (k:Int) (w:World):Calls Tryz.prog 186 #[.int .i64 k] w (fun e w' => e = .returned (.bool (decide (12 ≤ k) && decide (k ≤ 14))) ∧ w = w'):=by
 go_enter Tryz.func186,Tryz.ntmps186
 go_wp2_with (go_at_call 71;refine (s_in_any _ _ _ _).mono ?_;rintro _ w2 ⟨rfl,rfl⟩)
 go_ret
 exact ⟨rfl,rfl⟩

set_option maxRecDepth 100000 in
set_option maxHeartbeats 4000000 in
theorem s_count_any (k:Int) (w:World):Calls Tryz.prog 252 #[.int .i64 k] w (fun e w' => e = .returned (I64 (ruleF k).1) ∧ w = w'):=by
 by_cases hk:0 ≤ k ∧ k ≤ 16
 ·have:k = 0 ∨ k = 1 ∨ k = 2 ∨ k = 3 ∨ k = 4 ∨ k = 5 ∨ k = 6 ∨ k = 7 ∨ k = 8 ∨ k = 9 ∨ k = 10 ∨ k = 11 ∨ k = 12 ∨ k = 13 ∨ k = 14 ∨ k = 15 ∨ k = 16:=by omega
  rcases this with h | h | h | h | h | h | h | h | h | h | h | h | h | h | h | h | h
  all_goals
   subst h
   clear hk
   go_enter Tryz.func252,Tryz.ntmps252
   go_wp2_with fail
   go_ret
   exact ⟨rfl,rfl⟩
 ·have hk':kindOk k = false:=by
   simp only [kindOk,Bool.and_eq_false_iff,decide_eq_false_iff_not];omega
  have hr:I64 (ruleF k).1 = .int .i64 0:=by simp only [ruleF,hk'];rfl
  rw [hr]
  have hn:∀ c:Nat,c ≤ 16 → k ≠ (c:Int):=fun c hc h => hk (by omega)
  have h0:=hn 0 (by omega);have h1:=hn 1 (by omega);have h2:=hn 2 (by omega);have h3:=hn 3 (by omega);have h4:=hn 4 (by omega);have h5:=hn 5 (by omega);have h6:=hn 6 (by omega);have h7:=hn 7 (by omega);have h8:=hn 8 (by omega);have h9:=hn 9 (by omega);have h10:=hn 10 (by omega);have h11:=hn 11 (by omega);have h12:=hn 12 (by omega);have h13:=hn 13 (by omega);have h14:=hn 14 (by omega);have h15:=hn 15 (by omega);have h16:=hn 16 (by omega)
  clear hn hk hk' hr
  simp only [Int.natCast_zero,Int.natCast_one,Int.cast_ofNat_Int] at h0 h1 h2 h3 h4 h5 h6 h7 h8 h9 h10 h11 h12 h13 h14 h15 h16
  go_enter Tryz.func252,Tryz.ntmps252
  go_wp2_with fail
  go_ret
  exact ⟨rfl,rfl⟩
end Go.Proofs.YtbiacfkiakddiaaGreat

namespace Go.Proofs.YtbiacfkiakddiaaGreat
open Go.RowKit Go.Fl
def badS (s:Nat) (x:Nat):Bool:=!finP x || signBad s x

theorem s_fin2_any (a:Nat) (w:World) :
  Calls Tryz.prog 149 #[.float .f32 a] w (fun e w' => e = .returned (.bool (finP a)) ∧ Below w.heap.size w w'):=s_fin_any a w

set_option maxRecDepth 100000 in
set_option maxHeartbeats 8000000 in
theorem s_numbers_any (k:Int) (hk:0 ≤ k ∧ k ≤ 16) (xs:List Nat) (bp:Option Addr) (bv ov cap:Nat) (w:World) (h1:xs ≠ [] → bp = some ⟨bv,ov,none⟩) (h2:∀ i (h:i < xs.length),w.cell? ⟨bv,ov + i,none⟩ = some (.float .f32 xs[i])) :
  Calls Tryz.prog 185 #[.int .i64 k,.slice bp xs.length cap] w (fun e w' => e = .returned (.bool (decide (xs.length = (ruleF k).1) && !xs.any (badS (ruleF k).2.2.2))) ∧ Below w.heap.size w w'):=by
 obtain ⟨sg,hsg⟩:∃ sg,sg = (ruleF k).2.2.2:=⟨_,rfl⟩
 rw [← hsg]
 by_cases hlen:xs.length = (ruleF k).1
 ·have hlI:(xs.length:Int) = ((ruleF k).1:Int):=by omega
  have hl4:xs.length < 1000:=by
   rw [hlen];unfold ruleF;split
   ·unfold ruleT;split <;> simp
   ·simp
  have:k = 0 ∨ k = 1 ∨ k = 2 ∨ k = 3 ∨ k = 4 ∨ k = 5 ∨ k = 6 ∨ k = 7 ∨ k = 8 ∨ k = 9 ∨ k = 10 ∨ k = 11 ∨ k = 12 ∨ k = 13 ∨ k = 14 ∨ k = 15 ∨ k = 16:=by omega
  rcases this with h | h | h | h | h | h | h | h | h | h | h | h | h | h | h | h | h
  all_goals
   subst h
   have hcnt:=congrArg I64 hlen.symm
   have hlenH:Hid (xs.length = (ruleF _).1):=hlen
   clear hlen hk hlI
   have hsgH:Hid (sg = (ruleF _).2.2.2):=hsg
   clear hsg
   go_enter Tryz.func185,Tryz.ntmps185
   go_wp2_with (go_at_call 252;refine (s_count_any _ _).mono ?_;rintro _ w2 ⟨rfl,rfl⟩;rw [hcnt])
   clear hcnt
   go_loopw [5] (fun i wr => ∃ m:Nat,m ≤ xs.length ∧ i = .int .i64 (m:Int) ∧ (xs.take m).any (badS sg) = false ∧ Below w.heap.size w wr) (fun i _ => xs.length - (intOf i).toNat)
   case atStart => exact ⟨0,by omega,rfl,rfl,(by repeat' (first | exact Below.refl _ _ | exact Nat.le_refl _ | refine below_drewN ?_ _ | refine Below.alloc ?_ (by simp <;> omega) _ | refine Below.setCell ?_ (by simp <;> omega) _ | refine below_step ?_ (by assumption)))⟩
   case round =>
    obtain ⟨m,hm,rfl,hany,hwr⟩:=hrel
    by_cases hlt:m < xs.length
    ·have hne:xs ≠ []:=by intro h;rw [h] at hlt;simp at hlt
     have hc:=h2 m hlt
     have hlt':(m:Int) < (xs.length:Int):=by omega
     have h0:(0:Int) ≤ (m:Int):=by omega
     have hc':wr.cell? ⟨bv,ov + m,none⟩ = some (.float .f32 xs[m]):=by rw [lift hwr _ (by rw [hc];rfl)];exact hc
     have hbp:=h1 hne
     subst hbp
     have hmem:xs[m] ∈ xs:=List.getElem_mem _
     have hyes:Hid (badS sg xs[m] = true → xs.any (badS sg) = true):=fun h => List.any_eq_true.2 ⟨xs[m],hmem,h⟩
     have hno:Hid (badS sg xs[m] = false → (xs.take (m + 1)).any (badS sg) = false):=fun h => any_take_succ _ xs m hlt hany h
     clear h1 h2 hc hany hmem hne
     generalize xs[m] = v at *
     have hs:=hsgH.out
     cases hfp:finP v
     ·clear hs
      go_wp2_with (go_at_call 149;refine (s_fin2_any _ _).mono ?_;rintro _ w2 ⟨rfl,hb2⟩;rw [hfp])
      go_ret
      exact ⟨by rw [hyes.out (by simp [badS,hfp])];simp,below_step hwr (by assumption)⟩
     ·cases hlt0:(FloatKind.f32.format.order v 0 == some .lt) <;> cases heq0:(FloatKind.f32.format.order v 0 == some .eq)
      all_goals
       have hbad:Hid (badS sg v = signBad sg v):=by unfold Hid;simp only [badS,hfp,Bool.not_true,Bool.false_or]
       clear hs
       have hw3:∀ w2,Below wr.heap.size wr w2 → w2.cell? ⟨bv,ov + m,none⟩ = some (.float .f32 v):=fun w2 h => by rw [lift h _ (by rw [hc'];rfl)];exact hc'
       go_wp2_with (go_at_call 149;refine (s_fin2_any _ _).mono ?_;rintro _ w2 ⟨rfl,hb2⟩;rw [hfp];have hc2:=hw3 _ hb2)
       first
       | (go_ret;exact ⟨by rw [hyes.out (by rw [hbad.out,hsgH.out];simp [signBad,ltk,lek,ord_r0,hlt0,heq0,ruleF,ruleT,kindOk])];simp,below_step hwr (by assumption)⟩)
       | exact ⟨⟨m + 1,by omega,by simp,hno.out (by rw [hbad.out,hsgH.out];simp [signBad,ltk,lek,ord_r0,hlt0,heq0,ruleF,ruleT,kindOk]),below_step hwr (by assumption)⟩,by simp [intOf];omega⟩
    ·obtain rfl:m = xs.length:=by omega
     rw [List.take_length] at hany
     go_wp2_with fail
     go_ret
     exact ⟨by rw [hany,decide_eq_true hlenH.out];rfl,hwr⟩
 ·have hlI:(xs.length:Int) ≠ ((ruleF k).1:Int):=by omega
  have hv:(decide (xs.length = (ruleF k).1) && !xs.any (badS sg)) = false:=by simp [hlen]
  rw [hv]
  clear hv h1 h2
  go_enter Tryz.func185,Tryz.ntmps185
  go_wp2_with (go_at_call 252;refine (s_count_any _ _).mono ?_;rintro _ w2 ⟨rfl,rfl⟩)
  go_ret
  exact ⟨rfl,(by repeat' (first | exact Below.refl _ _ | exact Nat.le_refl _ | refine below_drewN ?_ _ | refine Below.alloc ?_ (by simp <;> omega) _ | refine Below.setCell ?_ (by simp <;> omega) _ | refine below_step ?_ (by assumption)))⟩
end Go.Proofs.YtbiacfkiakddiaaGreat

namespace Go.Proofs.YtbiacfkiakddiaaGreat
open Go.RowKit Go.Fl
set_option maxRecDepth 100000 in
set_option maxHeartbeats 4000000 in
theorem children_any (b o:Nat) (k x y:Int) (w:World) (h0:w.cell? ⟨b,o,none⟩ = some (.int .i64 k)) (h1:w.cell? ⟨b,o + 1,none⟩ = some (.int .i64 x)) (h2:w.cell? ⟨b,o + 2,none⟩ = some (.int .i64 y)) :
  Calls Tryz.prog 93 #[.pointer (some ⟨b,o,none⟩)] w (fun e w' => ∃ g,e = .returned (.slice (some ⟨g,0,none⟩) (ruleF k).2.1 2) ∧ w'.cell? ⟨g,0,none⟩ = some (.int .i64 x) ∧ w'.cell? ⟨g,1,none⟩ = some (.int .i64 y) ∧ w.heap.size ≤ g ∧ Below w.heap.size w w'):=by
 have hc:(ruleF k).2.1 ≤ 2:=by
  unfold ruleF;split
  ·unfold ruleT;split <;> simp
  ·simp
 have hb:b < w.heap.size:=some_lt (a:=⟨b,o,none⟩) (by rw [h0];rfl)
 go_enter Tryz.func93,Tryz.ntmps93
 go_wp2_with (go_at_call 155;refine (rule_any _ _).mono ?_;rintro _ w2 ⟨rfl,hb1⟩;have HL:=lift hb1;simp only [ruleV])
 have W3b:Below w.heap.size w (w2.alloc (.cells #[I64 (ruleF k).1,I64 (ruleF k).2.1,.bool (ruleF k).2.2.1,I64 (ruleF k).2.2.2] 217)):=hb1.alloc hb1.size _
 have hk1:(w2.alloc (.cells #[I64 (ruleF k).1,I64 (ruleF k).2.1,.bool (ruleF k).2.2.1,I64 (ruleF k).2.2.2] 217)).cell? ⟨b,o + 1,none⟩ = some (.int .i64 x):=by rw [lift W3b _ (by rw [h1];rfl)];exact h1
 have hk2:(w2.alloc (.cells #[I64 (ruleF k).1,I64 (ruleF k).2.1,.bool (ruleF k).2.2.1,I64 (ruleF k).2.2.2] 217)).cell? ⟨b,o + 2,none⟩ = some (.int .i64 y):=by rw [lift W3b _ (by rw [h2];rfl)];exact h2
 have hk3:(w2.alloc (.cells #[I64 (ruleF k).1,I64 (ruleF k).2.1,.bool (ruleF k).2.2.1,I64 (ruleF k).2.2.2] 217)).cell? ⟨w2.heap.size,1,none⟩ = some (I64 (ruleF k).2.1):=by simp
 clear hb1 HL
 generalize w2.alloc (.cells #[I64 (ruleF k).1,I64 (ruleF k).2.1,.bool (ruleF k).2.2.1,I64 (ruleF k).2.2.2] 217) = w3 at *
 clear h0 h1 h2
 generalize hnc:(ruleF k).2.1 = nc at *
 have hc':(nc:Int) ≤ 2:=by omega
 have hc0:(0:Int) ≤ nc:=by omega
 have hs3:w2.heap.size < w3.heap.size:=some_lt (a:=⟨w2.heap.size,1,none⟩) (by rw [hk3];rfl)
 have hk4:(w3.alloc (.cells #[.int .i64 x,.int .i64 y] 2)).cell? ⟨w2.heap.size,1,none⟩ = some (I64 nc):=by rw [lift ((Below.refl w3.heap.size w3).alloc (Nat.le_refl _) _) _ (by rw [hk3];rfl)];exact hk3
 go_region
 go_wp2_with fail
 go_ret
 exact ⟨w3.heap.size,by rw [hnc];rfl,by simp,by simp,W3b.size,((W3b.alloc W3b.size _)).drew⟩

theorem last_any (sb so:Nat) (bp:Option Addr) (len cap:Nat) (w:World) (h0:w.cell? ⟨sb,so,none⟩ = some (.slice bp len cap)) :
  Calls Tryz.prog 83 #[.pointer (some ⟨sb,so,none⟩)] w (fun e w' => e = .returned (.int .i64 (wrap64 ((len:Int) - 1))) ∧ w' = w):=by
 go_enter Tryz.func83,Tryz.ntmps83
 go_wp2_with fail
 go_ret
 exact ⟨rfl,rfl⟩
end Go.Proofs.YtbiacfkiakddiaaGreat

namespace Go.Proofs.YtbiacfkiakddiaaGreat
open Go.RowKit Go.Fl
theorem validc_any (a:Nat) (w:World) :
  Calls Tryz.prog 131 #[I64 a] w (fun e w' => e = .returned (.bool (a != 1)) ∧ Below w.heap.size w w'):=by
 go_enter Tryz.func131,Tryz.ntmps131
 by_cases h:a = 1
 ·subst h
  go_wp2_with fail
  go_ret
  exact ⟨rfl,Below.refl _ _⟩
 ·have h2:(a != 1) = true:=by simpa using h
  have h3:(((a:Int)) != 1) = true:=by simp;omega
  rw [h2]
  go_wp2_with fail
  go_ret
  exact ⟨rfl,Below.refl _ _⟩

set_option maxRecDepth 100000 in
set_option maxHeartbeats 1000000 in
theorem index_int (p:Nat → Bool) (xs:List Nat) (bp:Option Addr) (bv ov cap:Nat) (w:World) (h1:xs ≠ [] → bp = some ⟨bv,ov,none⟩) (h2:∀ i (h:i < xs.length),w.cell? ⟨bv,ov + i,none⟩ = some (I64 xs[i])) (hl:xs.length < 10000000)
  (hcall:∀ (x:Nat) w',Below w.heap.size w w' → Calls Tryz.prog 131 #[I64 x] w' (fun e w'' => e = .returned (.bool (p x)) ∧ Below w'.heap.size w' w'')) :
  Calls Tryz.prog 207 #[.slice bp xs.length cap,.func (.func 131) #[] #[]] w (fun e w' => ∃ r:Int,e = .returned (.int .i64 r) ∧ decide (0 ≤ r) = xs.any p ∧ Below w.heap.size w w'):=by
 go_enter Tryz.func207,Tryz.ntmps207
 go_wp2_with fail
 go_loopw [8] (fun i wr => ∃ m:Nat,m ≤ xs.length ∧ i = .int .i64 (m:Int) ∧ (xs.take m).any p = false ∧ Below w.heap.size w wr) (fun i _ => xs.length - (intOf i).toNat)
 case atStart => exact ⟨0,by omega,rfl,rfl,(by repeat' (first | exact Below.refl _ _ | exact Nat.le_refl _ | refine below_drewN ?_ _ | refine Below.alloc ?_ (by simp <;> omega) _ | refine Below.setCell ?_ (by simp <;> omega) _ | refine below_step ?_ (by assumption)))⟩
 case round =>
  obtain ⟨m,hm,rfl,hany,hwr⟩:=hrel
  by_cases hlt:m < xs.length
  ·have hne:xs ≠ []:=by intro h;rw [h] at hlt;simp at hlt
   have hc:=h2 m hlt
   have hlt':(m:Int) < (xs.length:Int):=by omega
   have h0:(0:Int) ≤ (m:Int):=by omega
   have hc':wr.cell? ⟨bv,ov + m,none⟩ = some (I64 xs[m]):=by rw [lift hwr _ (by rw [hc];rfl)];exact hc
   have hbp:=h1 hne
   subst hbp
   clear h1 h2 hc
   go_wp2_with fail
   refine (hcall _ _ hwr).mono ?_
   rintro _ w2 ⟨rfl,hb2⟩
   have hwr2:=below_step hwr hb2
   cases hp:p xs[m]
   ·go_wp2_with fail
    refine ⟨⟨m + 1,by omega,by simp,any_take_succ p xs m hlt hany hp,hwr2⟩,by simp [intOf];omega⟩
   ·go_wp2_with fail
    go_ret
    refine ⟨_,rfl,?_,hwr2⟩
    rw [show xs.any p = true from List.any_eq_true.2 ⟨xs[m],List.getElem_mem _,hp⟩]
    simp
  ·obtain rfl:m = xs.length:=by omega
   go_wp2_with fail
   go_ret
   exact ⟨_,rfl,by rw [List.take_length] at hany;rw [hany];rfl,hwr⟩
set_option maxRecDepth 100000 in
set_option maxHeartbeats 1000000 in
theorem contains_int (p:Nat → Bool) (xs:List Nat) (bp:Option Addr) (bv ov cap:Nat) (w:World) (h1:xs ≠ [] → bp = some ⟨bv,ov,none⟩) (h2:∀ i (h:i < xs.length),w.cell? ⟨bv,ov + i,none⟩ = some (I64 xs[i])) (hl:xs.length < 10000000)
  (hcall:∀ (x:Nat) w',Below w.heap.size w w' → Calls Tryz.prog 131 #[I64 x] w' (fun e w'' => e = .returned (.bool (p x)) ∧ Below w'.heap.size w' w'')) :
  Calls Tryz.prog 130 #[.slice bp xs.length cap,.func (.func 131) #[] #[]] w (fun e w' => e = .returned (.bool (xs.any p)) ∧ Below w.heap.size w w'):=by
 have hi:=index_int p xs bp bv ov cap w h1 h2 hl hcall
 clear h1 h2 hcall
 go_enter Tryz.func130,Tryz.ntmps130
 go_wp2_with fail
 refine hi.mono ?_
 rintro _ w2 ⟨r,rfl,hr,hb2⟩
 cases ha:xs.any p
 ·rw [ha] at hr
  have hr':r < 0:=by simpa using hr
  go_wp2_with fail
  go_ret
  exact ⟨by rw [ha];rfl,hb2⟩
 ·rw [ha] at hr
  have hr':0 ≤ r:=by simpa using hr
  go_wp2_with fail
  go_ret
  exact ⟨by rw [ha];rfl,hb2⟩

end Go.Proofs.YtbiacfkiakddiaaGreat
