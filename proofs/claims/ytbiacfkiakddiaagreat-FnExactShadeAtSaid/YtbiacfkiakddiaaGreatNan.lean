/-
 Lemmas: S10,Wi,X1.
-/
import Derived.Test.YtbiacfkiakddiaaGreatNal
import Derived.Test.YtbiacfkiakddiaaGreatNam
set_option linter.unusedVariables false
set_option linter.unusedSimpArgs false
namespace Go.Proofs.YtbiacfkiakddiaaGreat
open Go.RowKit Go.Fl
theorem n20:((2:Int) = 0) = False:=by decide
theorem n21:((2:Int) = 1) = False:=by decide
theorem n10:((1:Int) = 0) = False:=by decide
theorem n01:((0:Int) = 1) = False:=by decide

set_option maxRecDepth 100000 in
set_option maxHeartbeats 1000000 in
theorem s_turned_0 (x y z t:Nat) (w:World) :
  Calls Tryz.prog 275 #[V3 x y z,.int .i64 0,F1 t] w (RetV (cn .f32 x) (turn1 (cn .f32 t) (cn .f32 y) (cn .f32 z)) (turn2 (cn .f32 t) (cn .f32 y) (cn .f32 z)) w):=by
 go_enter Tryz.func275,Tryz.ntmps275
 go_upto_region 1 with (fail)
 have Wb:Below w.heap.size w ((w.alloc (.cells #[F1 x,F1 y,F1 z] 38)).alloc (.cells #[F1 0,F1 0,F1 0] 38)):=(by repeat' (first | exact Below.refl _ _ | exact Nat.le_refl _ | refine below_drewN ?_ _ | refine Below.alloc ?_ (by simp <;> omega) _ | refine Below.setCell ?_ (by simp <;> omega) _ | refine below_step ?_ (by assumption)))

 have hkept:Kept [(⟨w.heap.size,0,none⟩,F1 x),(⟨w.heap.size,1,none⟩,F1 y),(⟨w.heap.size,2,none⟩,F1 z),(⟨w.heap.size + 1,0,none⟩,F1 0),(⟨w.heap.size + 1,1,none⟩,F1 0),(⟨w.heap.size + 1,2,none⟩,F1 0)] [⟨w.heap.size + 1,0,none⟩,⟨w.heap.size + 1,1,none⟩,⟨w.heap.size + 1,2,none⟩] ((w.alloc (.cells #[F1 x,F1 y,F1 z] 38)).alloc (.cells #[F1 0,F1 0,F1 0] 38)):=by
  simp only [Kept,ka,kb,kc,kd,ke,kf,kg];simp
 generalize (w.alloc (.cells #[F1 x,F1 y,F1 z] 38)).alloc (.cells #[F1 0,F1 0,F1 0] 38) = W1 at Wb hkept ⊢
 have hK:=hkept
 simp only [Kept,ka,kb,kc,kd,ke,kf,kg] at hK
 go_wp2_with (first
  | (go_at_call 189;refine (s_sine_any _ _).mono ?_;rintro _ w1 ⟨r1,rfl,hr1,hb1⟩;(first | have hkept:=keep hkept hb1 | have hkept:=keep (kept_drewN hkept _) hb1 | have hkept:=keep (kept_drewN (kept_drewN hkept _) _) hb1 | have hkept:=keep (kept_drewN (kept_drewN (kept_drewN hkept _) _) _) hb1);clear hK;have hK:=hkept;simp only [Kept,ka,kb,kc,kd,ke,kf,kg] at hK)
  | (go_at_call 142;refine (s_pick_any _ _ _ _ _).mono ?_;rintro _ w1 ⟨rfl,hb1⟩;(first | have hkept:=keep hkept hb1 | have hkept:=keep (kept_drewN hkept _) hb1 | have hkept:=keep (kept_drewN (kept_drewN hkept _) _) hb1 | have hkept:=keep (kept_drewN (kept_drewN (kept_drewN hkept _) _) _) hb1);clear hK;have hK:=hkept;simp only [Kept,ka,kb,kc,kd,ke,kf,kg] at hK)
  | (go_at_call 143;refine (s_set_any _ _ _ _ _ _).mono ?_;rintro _ w1 ⟨rfl,hb1⟩;(first | have hkept:=keep hkept hb1 | have hkept:=keep (kept_drewN hkept _) hb1 | have hkept:=keep (kept_drewN (kept_drewN hkept _) _) hb1 | have hkept:=keep (kept_drewN (kept_drewN (kept_drewN hkept _) _) _) hb1);clear hK;have hK:=hkept;simp only [Kept,ka,kb,kc,kd,ke,kf,kg] at hK)
  | (refine wp_bin rfl _ _ _ _ _ rfl _ _ _ rfl rfl rfl ?_;intro r n hr))
 exact bodyPost_ret (v:=.agg #[F1 _,F1 _,F1 _]) (by simp [results,Tryz.results275,go_sem,hK];exact ⟨rfl,rfl,rfl⟩) rfl ⟨_,_,_,rfl,by simp only [setX,setY,setZ,pickF,n20,n21,n10,n01,if_true,if_false,turn1,turn2,cn_c6, *];done,by simp only [setX,setY,setZ,pickF,n20,n21,n10,n01,if_true,if_false,turn1,turn2,cn_c6, *];done,by simp only [setX,setY,setZ,pickF,n20,n21,n10,n01,if_true,if_false,turn1,turn2,cn_c6, *];done,(by repeat' (first | exact Below.refl _ _ | exact Nat.le_refl _ | refine below_drewN ?_ _ | refine Below.alloc ?_ (by simp <;> omega) _ | refine Below.setCell ?_ (by simp <;> omega) _ | refine below_step ?_ (by assumption)))⟩

set_option maxRecDepth 100000 in
set_option maxHeartbeats 1000000 in
theorem s_turned_1 (x y z t:Nat) (w:World) :
  Calls Tryz.prog 275 #[V3 x y z,.int .i64 1,F1 t] w (RetV (turn2 (cn .f32 t) (cn .f32 z) (cn .f32 x)) (cn .f32 y) (turn1 (cn .f32 t) (cn .f32 z) (cn .f32 x)) w):=by
 go_enter Tryz.func275,Tryz.ntmps275
 go_upto_region 1 with (fail)
 have Wb:Below w.heap.size w ((w.alloc (.cells #[F1 x,F1 y,F1 z] 38)).alloc (.cells #[F1 0,F1 0,F1 0] 38)):=(by repeat' (first | exact Below.refl _ _ | exact Nat.le_refl _ | refine below_drewN ?_ _ | refine Below.alloc ?_ (by simp <;> omega) _ | refine Below.setCell ?_ (by simp <;> omega) _ | refine below_step ?_ (by assumption)))

 have hkept:Kept [(⟨w.heap.size,0,none⟩,F1 x),(⟨w.heap.size,1,none⟩,F1 y),(⟨w.heap.size,2,none⟩,F1 z),(⟨w.heap.size + 1,0,none⟩,F1 0),(⟨w.heap.size + 1,1,none⟩,F1 0),(⟨w.heap.size + 1,2,none⟩,F1 0)] [⟨w.heap.size + 1,0,none⟩,⟨w.heap.size + 1,1,none⟩,⟨w.heap.size + 1,2,none⟩] ((w.alloc (.cells #[F1 x,F1 y,F1 z] 38)).alloc (.cells #[F1 0,F1 0,F1 0] 38)):=by
  simp only [Kept,ka,kb,kc,kd,ke,kf,kg];simp
 generalize (w.alloc (.cells #[F1 x,F1 y,F1 z] 38)).alloc (.cells #[F1 0,F1 0,F1 0] 38) = W1 at Wb hkept ⊢
 have hK:=hkept
 simp only [Kept,ka,kb,kc,kd,ke,kf,kg] at hK
 go_wp2_with (first
  | (go_at_call 189;refine (s_sine_any _ _).mono ?_;rintro _ w1 ⟨r1,rfl,hr1,hb1⟩;(first | have hkept:=keep hkept hb1 | have hkept:=keep (kept_drewN hkept _) hb1 | have hkept:=keep (kept_drewN (kept_drewN hkept _) _) hb1 | have hkept:=keep (kept_drewN (kept_drewN (kept_drewN hkept _) _) _) hb1);clear hK;have hK:=hkept;simp only [Kept,ka,kb,kc,kd,ke,kf,kg] at hK)
  | (go_at_call 142;refine (s_pick_any _ _ _ _ _).mono ?_;rintro _ w1 ⟨rfl,hb1⟩;(first | have hkept:=keep hkept hb1 | have hkept:=keep (kept_drewN hkept _) hb1 | have hkept:=keep (kept_drewN (kept_drewN hkept _) _) hb1 | have hkept:=keep (kept_drewN (kept_drewN (kept_drewN hkept _) _) _) hb1);clear hK;have hK:=hkept;simp only [Kept,ka,kb,kc,kd,ke,kf,kg] at hK)
  | (go_at_call 143;refine (s_set_any _ _ _ _ _ _).mono ?_;rintro _ w1 ⟨rfl,hb1⟩;(first | have hkept:=keep hkept hb1 | have hkept:=keep (kept_drewN hkept _) hb1 | have hkept:=keep (kept_drewN (kept_drewN hkept _) _) hb1 | have hkept:=keep (kept_drewN (kept_drewN (kept_drewN hkept _) _) _) hb1);clear hK;have hK:=hkept;simp only [Kept,ka,kb,kc,kd,ke,kf,kg] at hK)
  | (refine wp_bin rfl _ _ _ _ _ rfl _ _ _ rfl rfl rfl ?_;intro r n hr))
 exact bodyPost_ret (v:=.agg #[F1 _,F1 _,F1 _]) (by simp [results,Tryz.results275,go_sem,hK];exact ⟨rfl,rfl,rfl⟩) rfl ⟨_,_,_,rfl,by simp only [setX,setY,setZ,pickF,n20,n21,n10,n01,if_true,if_false,turn1,turn2,cn_c6, *];done,by simp only [setX,setY,setZ,pickF,n20,n21,n10,n01,if_true,if_false,turn1,turn2,cn_c6, *];done,by simp only [setX,setY,setZ,pickF,n20,n21,n10,n01,if_true,if_false,turn1,turn2,cn_c6, *];done,(by repeat' (first | exact Below.refl _ _ | exact Nat.le_refl _ | refine below_drewN ?_ _ | refine Below.alloc ?_ (by simp <;> omega) _ | refine Below.setCell ?_ (by simp <;> omega) _ | refine below_step ?_ (by assumption)))⟩

set_option maxRecDepth 100000 in
set_option maxHeartbeats 1000000 in
theorem s_turned_2 (x y z t:Nat) (w:World) :
  Calls Tryz.prog 275 #[V3 x y z,.int .i64 2,F1 t] w (RetV (turn1 (cn .f32 t) (cn .f32 x) (cn .f32 y)) (turn2 (cn .f32 t) (cn .f32 x) (cn .f32 y)) (cn .f32 z) w):=by
 go_enter Tryz.func275,Tryz.ntmps275
 go_upto_region 1 with (fail)
 have Wb:Below w.heap.size w ((w.alloc (.cells #[F1 x,F1 y,F1 z] 38)).alloc (.cells #[F1 0,F1 0,F1 0] 38)):=(by repeat' (first | exact Below.refl _ _ | exact Nat.le_refl _ | refine below_drewN ?_ _ | refine Below.alloc ?_ (by simp <;> omega) _ | refine Below.setCell ?_ (by simp <;> omega) _ | refine below_step ?_ (by assumption)))

 have hkept:Kept [(⟨w.heap.size,0,none⟩,F1 x),(⟨w.heap.size,1,none⟩,F1 y),(⟨w.heap.size,2,none⟩,F1 z),(⟨w.heap.size + 1,0,none⟩,F1 0),(⟨w.heap.size + 1,1,none⟩,F1 0),(⟨w.heap.size + 1,2,none⟩,F1 0)] [⟨w.heap.size + 1,0,none⟩,⟨w.heap.size + 1,1,none⟩,⟨w.heap.size + 1,2,none⟩] ((w.alloc (.cells #[F1 x,F1 y,F1 z] 38)).alloc (.cells #[F1 0,F1 0,F1 0] 38)):=by
  simp only [Kept,ka,kb,kc,kd,ke,kf,kg];simp
 generalize (w.alloc (.cells #[F1 x,F1 y,F1 z] 38)).alloc (.cells #[F1 0,F1 0,F1 0] 38) = W1 at Wb hkept ⊢
 have hK:=hkept
 simp only [Kept,ka,kb,kc,kd,ke,kf,kg] at hK
 go_wp2_with (first
  | (go_at_call 189;refine (s_sine_any _ _).mono ?_;rintro _ w1 ⟨r1,rfl,hr1,hb1⟩;(first | have hkept:=keep hkept hb1 | have hkept:=keep (kept_drewN hkept _) hb1 | have hkept:=keep (kept_drewN (kept_drewN hkept _) _) hb1 | have hkept:=keep (kept_drewN (kept_drewN (kept_drewN hkept _) _) _) hb1);clear hK;have hK:=hkept;simp only [Kept,ka,kb,kc,kd,ke,kf,kg] at hK)
  | (go_at_call 142;refine (s_pick_any _ _ _ _ _).mono ?_;rintro _ w1 ⟨rfl,hb1⟩;(first | have hkept:=keep hkept hb1 | have hkept:=keep (kept_drewN hkept _) hb1 | have hkept:=keep (kept_drewN (kept_drewN hkept _) _) hb1 | have hkept:=keep (kept_drewN (kept_drewN (kept_drewN hkept _) _) _) hb1);clear hK;have hK:=hkept;simp only [Kept,ka,kb,kc,kd,ke,kf,kg] at hK)
  | (go_at_call 143;refine (s_set_any _ _ _ _ _ _).mono ?_;rintro _ w1 ⟨rfl,hb1⟩;(first | have hkept:=keep hkept hb1 | have hkept:=keep (kept_drewN hkept _) hb1 | have hkept:=keep (kept_drewN (kept_drewN hkept _) _) hb1 | have hkept:=keep (kept_drewN (kept_drewN (kept_drewN hkept _) _) _) hb1);clear hK;have hK:=hkept;simp only [Kept,ka,kb,kc,kd,ke,kf,kg] at hK)
  | (refine wp_bin rfl _ _ _ _ _ rfl _ _ _ rfl rfl rfl ?_;intro r n hr))
 exact bodyPost_ret (v:=.agg #[F1 _,F1 _,F1 _]) (by simp [results,Tryz.results275,go_sem,hK];exact ⟨rfl,rfl,rfl⟩) rfl ⟨_,_,_,rfl,by simp only [setX,setY,setZ,pickF,n20,n21,n10,n01,if_true,if_false,turn1,turn2,cn_c6, *];done,by simp only [setX,setY,setZ,pickF,n20,n21,n10,n01,if_true,if_false,turn1,turn2,cn_c6, *];done,by simp only [setX,setY,setZ,pickF,n20,n21,n10,n01,if_true,if_false,turn1,turn2,cn_c6, *];done,(by repeat' (first | exact Below.refl _ _ | exact Nat.le_refl _ | refine below_drewN ?_ _ | refine Below.alloc ?_ (by simp <;> omega) _ | refine Below.setCell ?_ (by simp <;> omega) _ | refine below_step ?_ (by assumption)))⟩
end Go.Proofs.YtbiacfkiakddiaaGreat

namespace Go.Proofs.YtbiacfkiakddiaaGreat
open Go.RowKit Go.Fl
theorem validc_any (a:Nat) (w:World) :
  Calls Tryz.prog 131 #[I64 a] w (fun e w' => e = .returned (.bool (a != 1)) ∧ Below w.heap.size w w'):=by
 go_enter Tryz.func131,Tryz.ntmps131
 by_cases h:a = 1
 ·subst h
  go_wp2_with fail
  go_ret
  exact ⟨rfl,Below.refl _ _⟩
 ·have h2:(a != 1) = true:=by simpa using h
  have h3:(((a:Int)) != 1) = true:=by simp;omega
  rw [h2]
  go_wp2_with fail
  go_ret
  exact ⟨rfl,Below.refl _ _⟩

set_option maxRecDepth 100000 in
set_option maxHeartbeats 1000000 in
theorem index_int (p:Nat → Bool) (xs:List Nat) (bp:Option Addr) (bv ov cap:Nat) (w:World) (h1:xs ≠ [] → bp = some ⟨bv,ov,none⟩) (h2:∀ i (h:i < xs.length),w.cell? ⟨bv,ov + i,none⟩ = some (I64 xs[i])) (hl:xs.length < 10000000)
  (hcall:∀ (x:Nat) w',Below w.heap.size w w' → Calls Tryz.prog 131 #[I64 x] w' (fun e w'' => e = .returned (.bool (p x)) ∧ Below w'.heap.size w' w'')) :
  Calls Tryz.prog 207 #[.slice bp xs.length cap,.func (.func 131) #[] #[]] w (fun e w' => ∃ r:Int,e = .returned (.int .i64 r) ∧ decide (0 ≤ r) = xs.any p ∧ Below w.heap.size w w'):=by
 go_enter Tryz.func207,Tryz.ntmps207
 go_wp2_with fail
 go_loopw [8] (fun i wr => ∃ m:Nat,m ≤ xs.length ∧ i = .int .i64 (m:Int) ∧ (xs.take m).any p = false ∧ Below w.heap.size w wr) (fun i _ => xs.length - (intOf i).toNat)
 case atStart => exact ⟨0,by omega,rfl,rfl,(by repeat' (first | exact Below.refl _ _ | exact Nat.le_refl _ | refine below_drewN ?_ _ | refine Below.alloc ?_ (by simp <;> omega) _ | refine Below.setCell ?_ (by simp <;> omega) _ | refine below_step ?_ (by assumption)))⟩
 case round =>
  obtain ⟨m,hm,rfl,hany,hwr⟩:=hrel
  by_cases hlt:m < xs.length
  ·have hne:xs ≠ []:=by intro h;rw [h] at hlt;simp at hlt
   have hc:=h2 m hlt
   have hlt':(m:Int) < (xs.length:Int):=by omega
   have h0:(0:Int) ≤ (m:Int):=by omega
   have hc':wr.cell? ⟨bv,ov + m,none⟩ = some (I64 xs[m]):=by rw [lift hwr _ (by rw [hc];rfl)];exact hc
   have hbp:=h1 hne
   subst hbp
   clear h1 h2 hc
   go_wp2_with fail
   refine (hcall _ _ hwr).mono ?_
   rintro _ w2 ⟨rfl,hb2⟩
   have hwr2:=below_step hwr hb2
   cases hp:p xs[m]
   ·go_wp2_with fail
    refine ⟨⟨m + 1,by omega,by simp,any_take_succ p xs m hlt hany hp,hwr2⟩,by simp [intOf];omega⟩
   ·go_wp2_with fail
    go_ret
    refine ⟨_,rfl,?_,hwr2⟩
    rw [show xs.any p = true from List.any_eq_true.2 ⟨xs[m],List.getElem_mem _,hp⟩]
    simp
  ·obtain rfl:m = xs.length:=by omega
   go_wp2_with fail
   go_ret
   exact ⟨_,rfl,by rw [List.take_length] at hany;rw [hany];rfl,hwr⟩
set_option maxRecDepth 100000 in
set_option maxHeartbeats 1000000 in
theorem contains_int (p:Nat → Bool) (xs:List Nat) (bp:Option Addr) (bv ov cap:Nat) (w:World) (h1:xs ≠ [] → bp = some ⟨bv,ov,none⟩) (h2:∀ i (h:i < xs.length),w.cell? ⟨bv,ov + i,none⟩ = some (I64 xs[i])) (hl:xs.length < 10000000)
  (hcall:∀ (x:Nat) w',Below w.heap.size w w' → Calls Tryz.prog 131 #[I64 x] w' (fun e w'' => e = .returned (.bool (p x)) ∧ Below w'.heap.size w' w'')) :
  Calls Tryz.prog 130 #[.slice bp xs.length cap,.func (.func 131) #[] #[]] w (fun e w' => e = .returned (.bool (xs.any p)) ∧ Below w.heap.size w w'):=by
 have hi:=index_int p xs bp bv ov cap w h1 h2 hl hcall
 clear h1 h2 hcall
 go_enter Tryz.func130,Tryz.ntmps130
 go_wp2_with fail
 refine hi.mono ?_
 rintro _ w2 ⟨r,rfl,hr,hb2⟩
 cases ha:xs.any p
 ·rw [ha] at hr
  have hr':r < 0:=by simpa using hr
  go_wp2_with fail
  go_ret
  exact ⟨by rw [ha];rfl,hb2⟩
 ·rw [ha] at hr
  have hr':0 ≤ r:=by simpa using hr
  go_wp2_with fail
  go_ret
  exact ⟨by rw [ha];rfl,hb2⟩

end Go.Proofs.YtbiacfkiakddiaaGreat

namespace Go.Proofs.YtbiacfkiakddiaaGreat
open Go.RowKit Go.Fl
def addV (p q:Nat × Nat × Nat):Nat × Nat × Nat:=(B .add p.1 q.1,B .add p.2.1 q.2.1,B .add p.2.2 q.2.2)
def lessV (p q:Nat × Nat × Nat):Nat × Nat × Nat:=(B .sub p.1 q.1,B .sub p.2.1 q.2.1,B .sub p.2.2 q.2.2)
def scaleV (p:Nat × Nat × Nat) (f:Nat):Nat × Nat × Nat:=(B .mul p.1 f,B .mul p.2.1 f,B .mul p.2.2 f)
def rightP (x:Nat):Bool:=eqk .f32 (B .sub x x) 0 && gtk .f32 x 0

set_option maxHeartbeats 400000 in
theorem add_any (a b c d e f:Nat) (w:World) :
  Calls Tryz.prog 232 #[.agg #[.float .f32 a,.float .f32 b,.float .f32 c],.agg #[.float .f32 d,.float .f32 e,.float .f32 f]] w
   (RetV (B .add (cn .f32 a) (cn .f32 d)) (B .add (cn .f32 b) (cn .f32 e)) (B .add (cn .f32 c) (cn .f32 f)) w):=by
 go_enter Tryz.func232,Tryz.ntmps232
 go_wp2_with (refine wp_bin rfl _ _ _ _ _ rfl _ _ _ rfl rfl rfl ?_;intro r n hr)
 exact bodyPost_ret (v:=.agg #[.float .f32 _,.float .f32 _,.float .f32 _]) (by simp [results,Tryz.results232,go_sem];exact ⟨rfl,rfl,rfl⟩) rfl ⟨_,_,_,rfl,by assumption,by assumption,by assumption,(by repeat' (first | exact Below.refl _ _ | exact Nat.le_refl _ | refine below_drewN ?_ _ | refine Below.alloc ?_ (by simp <;> omega) _ | refine Below.setCell ?_ (by simp <;> omega) _ | refine below_step ?_ (by assumption)))⟩

set_option maxHeartbeats 400000 in
theorem scale_any (a b c d:Nat) (w:World) :
  Calls Tryz.prog 233 #[.agg #[.float .f32 a,.float .f32 b,.float .f32 c],.float .f32 d] w
   (RetV (B .mul (cn .f32 a) (cn .f32 d)) (B .mul (cn .f32 b) (cn .f32 d)) (B .mul (cn .f32 c) (cn .f32 d)) w):=by
 go_enter Tryz.func233,Tryz.ntmps233
 go_wp2_with (refine wp_bin rfl _ _ _ _ _ rfl _ _ _ rfl rfl rfl ?_;intro r n hr)
 exact bodyPost_ret (v:=.agg #[.float .f32 _,.float .f32 _,.float .f32 _]) (by simp [results,Tryz.results233,go_sem];exact ⟨rfl,rfl,rfl⟩) rfl ⟨_,_,_,rfl,by assumption,by assumption,by assumption,(by repeat' (first | exact Below.refl _ _ | exact Nat.le_refl _ | refine below_drewN ?_ _ | refine Below.alloc ?_ (by simp <;> omega) _ | refine Below.setCell ?_ (by simp <;> omega) _ | refine below_step ?_ (by assumption)))⟩

set_option maxHeartbeats 400000 in
theorem s_add_any (a b c d e f:Nat) (w:World) :
  Calls Tryz.prog 228 #[.agg #[.float .f32 a,.float .f32 b,.float .f32 c],.agg #[.float .f32 d,.float .f32 e,.float .f32 f]] w
   (RetV (B .add (cn .f32 a) (cn .f32 d)) (B .add (cn .f32 b) (cn .f32 e)) (B .add (cn .f32 c) (cn .f32 f)) w):=by
 go_enter Tryz.func228,Tryz.ntmps228
 go_wp2_with (refine wp_bin rfl _ _ _ _ _ rfl _ _ _ rfl rfl rfl ?_;intro r n hr)
 exact bodyPost_ret (v:=.agg #[.float .f32 _,.float .f32 _,.float .f32 _]) (by simp [results,Tryz.results228,go_sem];exact ⟨rfl,rfl,rfl⟩) rfl ⟨_,_,_,rfl,by assumption,by assumption,by assumption,(by repeat' (first | exact Below.refl _ _ | exact Nat.le_refl _ | refine below_drewN ?_ _ | refine Below.alloc ?_ (by simp <;> omega) _ | refine Below.setCell ?_ (by simp <;> omega) _ | refine below_step ?_ (by assumption)))⟩

set_option maxHeartbeats 400000 in
theorem s_scale_any (a b c d:Nat) (w:World) :
  Calls Tryz.prog 229 #[.agg #[.float .f32 a,.float .f32 b,.float .f32 c],.float .f32 d] w
   (RetV (B .mul (cn .f32 a) (cn .f32 d)) (B .mul (cn .f32 b) (cn .f32 d)) (B .mul (cn .f32 c) (cn .f32 d)) w):=by
 go_enter Tryz.func229,Tryz.ntmps229
 go_wp2_with (refine wp_bin rfl _ _ _ _ _ rfl _ _ _ rfl rfl rfl ?_;intro r n hr)
 exact bodyPost_ret (v:=.agg #[.float .f32 _,.float .f32 _,.float .f32 _]) (by simp [results,Tryz.results229,go_sem];exact ⟨rfl,rfl,rfl⟩) rfl ⟨_,_,_,rfl,by assumption,by assumption,by assumption,(by repeat' (first | exact Below.refl _ _ | exact Nat.le_refl _ | refine below_drewN ?_ _ | refine Below.alloc ?_ (by simp <;> omega) _ | refine Below.setCell ?_ (by simp <;> omega) _ | refine below_step ?_ (by assumption)))⟩

set_option maxHeartbeats 400000 in
theorem step_any (a:Nat) (w:World) :
  Calls Tryz.prog 89 #[.float .f32 a] w (fun e w' => e = .returned (.bool (rightP (cn .f32 a))) ∧ Below w.heap.size w w'):=by
 cases hf:eqk .f32 (B .sub (cn .f32 a) (cn .f32 a)) 0
 ·go_enter Tryz.func89,Tryz.ntmps89
  go_wp2_with (go_at_call 150;refine (fin_any _ _).mono ?_;rintro _ w2 ⟨rfl,hb1⟩;rw [hf])
  go_ret
  exact ⟨by unfold rightP;rw [hf];rfl,(by repeat' (first | exact Below.refl _ _ | exact Nat.le_refl _ | refine below_drewN ?_ _ | refine Below.alloc ?_ (by simp <;> omega) _ | refine Below.setCell ?_ (by simp <;> omega) _ | refine below_step ?_ (by assumption)))⟩
 ·go_enter Tryz.func89,Tryz.ntmps89
  go_wp2_with (go_at_call 150;refine (fin_any _ _).mono ?_;rintro _ w2 ⟨rfl,hb1⟩;rw [hf])
  go_ret
  exact ⟨by unfold rightP;rw [hf,gtk,ord_r0];rfl,(by repeat' (first | exact Below.refl _ _ | exact Nat.le_refl _ | refine below_drewN ?_ _ | refine Below.alloc ?_ (by simp <;> omega) _ | refine Below.setCell ?_ (by simp <;> omega) _ | refine below_step ?_ (by assumption)))⟩

set_option maxHeartbeats 400000 in
theorem s_step_any (a:Nat) (w:World) :
  Calls Tryz.prog 87 #[.float .f32 a] w (fun e w' => e = .returned (.bool (rightP (cn .f32 a))) ∧ Below w.heap.size w w'):=by
 cases hf:eqk .f32 (B .sub (cn .f32 a) (cn .f32 a)) 0
 ·go_enter Tryz.func87,Tryz.ntmps87
  go_wp2_with (go_at_call 149;refine (s_fin_any _ _).mono ?_;rintro _ w2 ⟨rfl,hb1⟩;rw [hf])
  go_ret
  exact ⟨by unfold rightP;rw [hf];rfl,(by repeat' (first | exact Below.refl _ _ | exact Nat.le_refl _ | refine below_drewN ?_ _ | refine Below.alloc ?_ (by simp <;> omega) _ | refine Below.setCell ?_ (by simp <;> omega) _ | refine below_step ?_ (by assumption)))⟩
 ·go_enter Tryz.func87,Tryz.ntmps87
  go_wp2_with (go_at_call 149;refine (s_fin_any _ _).mono ?_;rintro _ w2 ⟨rfl,hb1⟩;rw [hf])
  go_ret
  exact ⟨by unfold rightP;rw [hf,gtk,ord_r0];rfl,(by repeat' (first | exact Below.refl _ _ | exact Nat.le_refl _ | refine below_drewN ?_ _ | refine Below.alloc ?_ (by simp <;> omega) _ | refine Below.setCell ?_ (by simp <;> omega) _ | refine below_step ?_ (by assumption)))⟩
end Go.Proofs.YtbiacfkiakddiaaGreat
