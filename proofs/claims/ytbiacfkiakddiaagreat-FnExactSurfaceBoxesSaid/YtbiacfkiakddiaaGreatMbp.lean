/-
 Lemmas: V23.
-/
import Derived.Test.YtbiacfkiakddiaaGreatMbn
set_option linter.unusedVariables false
set_option linter.unusedSimpArgs false
namespace Go.Proofs.YtbiacfkiakddiaaGreat
open Go.RowKit Go.Fl
inductive PhiPl2:FuncId → Array Value → Value → Prop
set_option maxRecDepth 100000 in
set_option maxHeartbeats 2000000 in
theorem place_quo1 {b o bv ov cap r0 x0 x1 y0 y1 z0 z1:Nat} {bp:Option Addr} {w:World} (hN:Kept [(⟨b,o,none⟩,.int .i64 10),(⟨b,o + 2,none⟩,.int .i64 0),(⟨b,o + 3,none⟩,.slice (some ⟨bv,ov,none⟩) 1 cap),(⟨bv,ov,none⟩,F1 r0)] [] w) :
  Calls Tryz.prog 134 #[.pointer (some ⟨b,o,none⟩),Rg3 x0 x1 y0 y1 z0 z1] w (RetPl (quoR (cn .f32 r0) (cn .f32 x0,cn .f32 x1),quoR (cn .f32 r0) (cn .f32 y0,cn .f32 y1),quoR (cn .f32 r0) (cn .f32 z0,cn .f32 z1)) w):=by
 have hK:=hN
 simp only [Kept,ka,kb,kc,kd,ke,kf,kg] at hK
 have hb:b < w.heap.size:=some_lt (a:=⟨b,o,none⟩) (by rw [hK.1];rfl)
 go_enter Tryz.func134,Tryz.ntmps134
 go_upto_region 1 with fail
 clear hK
 generalize hW:(w.alloc (.cells #[F1 x0,F1 x1,F1 y0,F1 y1,F1 z0,F1 z1] 197)).alloc (.cells #[F1 0,F1 0,F1 0,F1 0,F1 0,F1 0] 197) = W1 at *
 have W1b:Below w.heap.size w W1:=by subst hW;exact (by repeat' (first | exact Below.refl _ _ | exact Nat.le_refl _ | refine below_drewN ?_ _ | refine Below.alloc ?_ (by simp <;> omega) _ | refine Below.setCell ?_ (by simp <;> omega) _ | refine below_step ?_ (by assumption)))
 have hkept:Kept [(⟨w.heap.size,0,none⟩,F1 x0),(⟨w.heap.size,1,none⟩,F1 x1),(⟨w.heap.size,2,none⟩,F1 y0),(⟨w.heap.size,3,none⟩,F1 y1),(⟨w.heap.size,4,none⟩,F1 z0),(⟨w.heap.size,5,none⟩,F1 z1),(⟨w.heap.size + 1,0,none⟩,F1 0),(⟨w.heap.size + 1,1,none⟩,F1 0),(⟨w.heap.size + 1,2,none⟩,F1 0),(⟨w.heap.size + 1,3,none⟩,F1 0),(⟨w.heap.size + 1,4,none⟩,F1 0),(⟨w.heap.size + 1,5,none⟩,F1 0)] [⟨w.heap.size,0,none⟩,⟨w.heap.size,1,none⟩,⟨w.heap.size,2,none⟩,⟨w.heap.size,3,none⟩,⟨w.heap.size,4,none⟩,⟨w.heap.size,5,none⟩,⟨w.heap.size + 1,0,none⟩,⟨w.heap.size + 1,1,none⟩,⟨w.heap.size + 1,2,none⟩,⟨w.heap.size + 1,3,none⟩,⟨w.heap.size + 1,4,none⟩,⟨w.heap.size + 1,5,none⟩] W1:=by
  subst hW;simp only [Kept,ka,kb,kc,kd,ke,kf,kg];(first | (go_simp;done) | (simp [World.cell?,World.frozen?,World.alloc,Array.getElem?_push];done))
 clear hW
 have hkept:=kept_app (keep hN W1b) hkept
 have hK:=hkept;simp only [Kept,ka,kb,kc,kd,ke,kf,kg] at hK
 have hb1:b < W1.heap.size:=Nat.lt_of_lt_of_le hb W1b.size
 go_upto_region 2 with fail
 refine Qr.wp_below_all (by kernel_rfl) (by kernel_rfl) PhiPl2 ?_
 repeat (first | (refine Qr.walk_plain rfl fun K hK => ?_;refine one_bin _ _ _ _ _ rfl _ _ _ rfl rfl rfl (fun r hr => ?_);go_simp;refine hK _ ?_;clear hK K) | (refine Qr.walk_plain rfl fun K hK => ?_;apply Qr.one_det;(focus (intro w' hw';have HK:=keep hkept hw';simp only [Kept,ka,kb,kc,kd,ke,kf,kg] at HK;go_simp;first | done | rfl));go_simp;refine hK _ ?_;clear hK K))
 refine Qr.walk_nil fun w6 hw6 => ?_
 have hkept:=keep hkept hw6
 have W6b:=below_step W1b hw6
 clear hK
 have hK:=hkept
 simp only [Kept,ka,kb,kc,kd,ke,kf,kg] at hK
 go_wp2_with fail
 have hc6:Kept [(⟨w.heap.size,0,none⟩,F1 x0),(⟨w.heap.size,1,none⟩,F1 x1),(⟨w.heap.size,2,none⟩,F1 y0),(⟨w.heap.size,3,none⟩,F1 y1),(⟨w.heap.size,4,none⟩,F1 z0),(⟨w.heap.size,5,none⟩,F1 z1),(⟨w.heap.size + 1,0,none⟩,F1 0),(⟨w.heap.size + 1,1,none⟩,F1 0),(⟨w.heap.size + 1,2,none⟩,F1 0),(⟨w.heap.size + 1,3,none⟩,F1 0),(⟨w.heap.size + 1,4,none⟩,F1 0),(⟨w.heap.size + 1,5,none⟩,F1 0)] [⟨w.heap.size,0,none⟩,⟨w.heap.size,1,none⟩,⟨w.heap.size,2,none⟩,⟨w.heap.size,3,none⟩,⟨w.heap.size,4,none⟩,⟨w.heap.size,5,none⟩,⟨w.heap.size + 1,0,none⟩,⟨w.heap.size + 1,1,none⟩,⟨w.heap.size + 1,2,none⟩,⟨w.heap.size + 1,3,none⟩,⟨w.heap.size + 1,4,none⟩,⟨w.heap.size + 1,5,none⟩] w6:=by simp only [Kept,ka,kb,kc,kd,ke,kf,kg];simp [hK]
 have hall:∃ (m a0 a1 b0 b1 c0 c1:Nat),Value.int IntKind.i64 0 = .int .i64 (m:Int) ∧ ((m = 0 ∧ (cn .f32 a0,cn .f32 a1) = (cn .f32 x0,cn .f32 x1) ∧ (cn .f32 b0,cn .f32 b1) = (cn .f32 y0,cn .f32 y1) ∧ (cn .f32 c0,cn .f32 c1) = (cn .f32 z0,cn .f32 z1)) ∨ (m = 1 ∧ (cn .f32 a0,cn .f32 a1) = quoR (cn .f32 r0) (cn .f32 x0,cn .f32 x1) ∧ (cn .f32 b0,cn .f32 b1) = (cn .f32 y0,cn .f32 y1) ∧ (cn .f32 c0,cn .f32 c1) = (cn .f32 z0,cn .f32 z1)) ∨ (m = 2 ∧ (cn .f32 a0,cn .f32 a1) = quoR (cn .f32 r0) (cn .f32 x0,cn .f32 x1) ∧ (cn .f32 b0,cn .f32 b1) = quoR (cn .f32 r0) (cn .f32 y0,cn .f32 y1) ∧ (cn .f32 c0,cn .f32 c1) = (cn .f32 z0,cn .f32 z1)) ∨ (m = 3 ∧ (cn .f32 a0,cn .f32 a1) = quoR (cn .f32 r0) (cn .f32 x0,cn .f32 x1) ∧ (cn .f32 b0,cn .f32 b1) = quoR (cn .f32 r0) (cn .f32 y0,cn .f32 y1) ∧ (cn .f32 c0,cn .f32 c1) = quoR (cn .f32 r0) (cn .f32 z0,cn .f32 z1))) ∧ Kept [(⟨w.heap.size,0,none⟩,F1 a0),(⟨w.heap.size,1,none⟩,F1 a1),(⟨w.heap.size,2,none⟩,F1 b0),(⟨w.heap.size,3,none⟩,F1 b1),(⟨w.heap.size,4,none⟩,F1 c0),(⟨w.heap.size,5,none⟩,F1 c1),(⟨w.heap.size + 1,0,none⟩,F1 0),(⟨w.heap.size + 1,1,none⟩,F1 0),(⟨w.heap.size + 1,2,none⟩,F1 0),(⟨w.heap.size + 1,3,none⟩,F1 0),(⟨w.heap.size + 1,4,none⟩,F1 0),(⟨w.heap.size + 1,5,none⟩,F1 0)] [⟨w.heap.size,0,none⟩,⟨w.heap.size,1,none⟩,⟨w.heap.size,2,none⟩,⟨w.heap.size,3,none⟩,⟨w.heap.size,4,none⟩,⟨w.heap.size,5,none⟩,⟨w.heap.size + 1,0,none⟩,⟨w.heap.size + 1,1,none⟩,⟨w.heap.size + 1,2,none⟩,⟨w.heap.size + 1,3,none⟩,⟨w.heap.size + 1,4,none⟩,⟨w.heap.size + 1,5,none⟩] w6 ∧ Below w.heap.size w w6:=⟨0,x0,x1,y0,y1,z0,z1,rfl,.inl ⟨rfl,rfl,rfl,rfl⟩,hc6,W6b⟩
 clear hK hkept hw6 hb1 hc6
 go_loopw [56] (fun i wr => ∃ (m a0 a1 b0 b1 c0 c1:Nat),i = .int .i64 (m:Int) ∧ ((m = 0 ∧ (cn .f32 a0,cn .f32 a1) = (cn .f32 x0,cn .f32 x1) ∧ (cn .f32 b0,cn .f32 b1) = (cn .f32 y0,cn .f32 y1) ∧ (cn .f32 c0,cn .f32 c1) = (cn .f32 z0,cn .f32 z1)) ∨ (m = 1 ∧ (cn .f32 a0,cn .f32 a1) = quoR (cn .f32 r0) (cn .f32 x0,cn .f32 x1) ∧ (cn .f32 b0,cn .f32 b1) = (cn .f32 y0,cn .f32 y1) ∧ (cn .f32 c0,cn .f32 c1) = (cn .f32 z0,cn .f32 z1)) ∨ (m = 2 ∧ (cn .f32 a0,cn .f32 a1) = quoR (cn .f32 r0) (cn .f32 x0,cn .f32 x1) ∧ (cn .f32 b0,cn .f32 b1) = quoR (cn .f32 r0) (cn .f32 y0,cn .f32 y1) ∧ (cn .f32 c0,cn .f32 c1) = (cn .f32 z0,cn .f32 z1)) ∨ (m = 3 ∧ (cn .f32 a0,cn .f32 a1) = quoR (cn .f32 r0) (cn .f32 x0,cn .f32 x1) ∧ (cn .f32 b0,cn .f32 b1) = quoR (cn .f32 r0) (cn .f32 y0,cn .f32 y1) ∧ (cn .f32 c0,cn .f32 c1) = quoR (cn .f32 r0) (cn .f32 z0,cn .f32 z1))) ∧ Kept [(⟨w.heap.size,0,none⟩,F1 a0),(⟨w.heap.size,1,none⟩,F1 a1),(⟨w.heap.size,2,none⟩,F1 b0),(⟨w.heap.size,3,none⟩,F1 b1),(⟨w.heap.size,4,none⟩,F1 c0),(⟨w.heap.size,5,none⟩,F1 c1),(⟨w.heap.size + 1,0,none⟩,F1 0),(⟨w.heap.size + 1,1,none⟩,F1 0),(⟨w.heap.size + 1,2,none⟩,F1 0),(⟨w.heap.size + 1,3,none⟩,F1 0),(⟨w.heap.size + 1,4,none⟩,F1 0),(⟨w.heap.size + 1,5,none⟩,F1 0)] [⟨w.heap.size,0,none⟩,⟨w.heap.size,1,none⟩,⟨w.heap.size,2,none⟩,⟨w.heap.size,3,none⟩,⟨w.heap.size,4,none⟩,⟨w.heap.size,5,none⟩,⟨w.heap.size + 1,0,none⟩,⟨w.heap.size + 1,1,none⟩,⟨w.heap.size + 1,2,none⟩,⟨w.heap.size + 1,3,none⟩,⟨w.heap.size + 1,4,none⟩,⟨w.heap.size + 1,5,none⟩] wr ∧ Below w.heap.size w wr) (fun i _ => 3 - (intOf i).toNat)
 case atStart => exact hall
 case round =>
  clear hall
  obtain ⟨m,a0,a1,b0,b1,c0,c1,rfl,hm,hkept,Wb⟩:=hrel
  have hkept:=kept_app (keep hN Wb) hkept
  have hK:=hkept;simp only [Kept,ka,kb,kc,kd,ke,kf,kg] at hK
  rcases hm with ⟨rfl,e0,e1,e2⟩ | ⟨rfl,e0,e1,e2⟩ | ⟨rfl,e0,e1,e2⟩ | ⟨rfl,e0,e1,e2⟩
  ·go_upto_region 12 with fail
   have hbA:Below wr.heap.size wr (wr.alloc (.cells #[F1 r0] 25)):=(Below.refl _ _).alloc (Nat.le_refl _) _
   have hkept:=kept_app (keep hkept hbA) (show Kept [(⟨wr.heap.size,0,none⟩,F1 r0)] [] (wr.alloc (.cells #[F1 r0] 25)) by simp only [Kept,ka,kb,kc,kd,ke,kf,kg];simp)
   have W2b:=below_step Wb hbA
   clear hK hbA
   generalize wr.alloc (.cells #[F1 r0] 25) = W2 at *
   have hK:=hkept;simp only [Kept,ka,kb,kc,kd,ke,kf,kg] at hK
   go_upto_region 13 with (go_at_call 209;refine (both_div (fun x => B .quo x (cn .f32 r0)) ⟨_,0,none⟩ _ _ _ (fun x w' hb => cl_div x r0 _ 0 w' (by have HK2:=keep hkept hb;simp only [Kept,ka,kb,kc,kd,ke,kf,kg] at HK2;simp [HK2]))).mono ?_;rintro _ w8 ⟨l1,u1,rfl,hr1,hb1⟩;have W3b:=below_step W2b hb1;have hkept:=keepT hkept hb1 rfl;clear hK;have hK:=hkept;simp only [Kept,ka,kb,kc,kd,ke,kf,kg] at hK)
   have W4b:=(W3b.setCell (p:=⟨w.heap.size,0,none⟩) (Nat.le_refl _) (F1 l1)).setCell (p:=⟨w.heap.size,1,none⟩) (Nat.le_refl _) (F1 u1)
   have hset:Kept [(⟨w.heap.size,0,none⟩,F1 l1),(⟨w.heap.size,1,none⟩,F1 u1),(⟨w.heap.size,2,none⟩,F1 b0),(⟨w.heap.size,3,none⟩,F1 b1),(⟨w.heap.size,4,none⟩,F1 c0),(⟨w.heap.size,5,none⟩,F1 c1),(⟨w.heap.size + 1,0,none⟩,F1 0),(⟨w.heap.size + 1,1,none⟩,F1 0),(⟨w.heap.size + 1,2,none⟩,F1 0),(⟨w.heap.size + 1,3,none⟩,F1 0),(⟨w.heap.size + 1,4,none⟩,F1 0),(⟨w.heap.size + 1,5,none⟩,F1 0)] [⟨w.heap.size,0,none⟩,⟨w.heap.size,1,none⟩,⟨w.heap.size,2,none⟩,⟨w.heap.size,3,none⟩,⟨w.heap.size,4,none⟩,⟨w.heap.size,5,none⟩,⟨w.heap.size + 1,0,none⟩,⟨w.heap.size + 1,1,none⟩,⟨w.heap.size + 1,2,none⟩,⟨w.heap.size + 1,3,none⟩,⟨w.heap.size + 1,4,none⟩,⟨w.heap.size + 1,5,none⟩] ((w8.setCell ⟨w.heap.size,0,none⟩ (F1 l1)).setCell ⟨w.heap.size,1,none⟩ (F1 u1)):=by simp only [Kept,ka,kb,kc,kd,ke,kf,kg];simp [hK,go_sem,World.cell?_setCell_other,World.cell?_setCell_same',World.frozen?_setCell]
   clear hK hkept
   go_wp2_with fail
   exact ⟨⟨1,l1,u1,b0,b1,c0,c1,rfl,.inr (.inl ⟨rfl,by rw [hr1,e0];rfl,e1,e2⟩),hset,W4b⟩,by simp [intOf]⟩
  ·go_upto_region 12 with fail
   have hbA:Below wr.heap.size wr (wr.alloc (.cells #[F1 r0] 25)):=(Below.refl _ _).alloc (Nat.le_refl _) _
   have hkept:=kept_app (keep hkept hbA) (show Kept [(⟨wr.heap.size,0,none⟩,F1 r0)] [] (wr.alloc (.cells #[F1 r0] 25)) by simp only [Kept,ka,kb,kc,kd,ke,kf,kg];simp)
   have W2b:=below_step Wb hbA
   clear hK hbA
   generalize wr.alloc (.cells #[F1 r0] 25) = W2 at *
   have hK:=hkept;simp only [Kept,ka,kb,kc,kd,ke,kf,kg] at hK
   go_upto_region 13 with (go_at_call 209;refine (both_div (fun x => B .quo x (cn .f32 r0)) ⟨_,0,none⟩ _ _ _ (fun x w' hb => cl_div x r0 _ 0 w' (by have HK2:=keep hkept hb;simp only [Kept,ka,kb,kc,kd,ke,kf,kg] at HK2;simp [HK2]))).mono ?_;rintro _ w8 ⟨l1,u1,rfl,hr1,hb1⟩;have W3b:=below_step W2b hb1;have hkept:=keepT hkept hb1 rfl;clear hK;have hK:=hkept;simp only [Kept,ka,kb,kc,kd,ke,kf,kg] at hK)
   have W4b:=(W3b.setCell (p:=⟨w.heap.size,2,none⟩) (Nat.le_refl _) (F1 l1)).setCell (p:=⟨w.heap.size,3,none⟩) (Nat.le_refl _) (F1 u1)
   have hset:Kept [(⟨w.heap.size,0,none⟩,F1 a0),(⟨w.heap.size,1,none⟩,F1 a1),(⟨w.heap.size,2,none⟩,F1 l1),(⟨w.heap.size,3,none⟩,F1 u1),(⟨w.heap.size,4,none⟩,F1 c0),(⟨w.heap.size,5,none⟩,F1 c1),(⟨w.heap.size + 1,0,none⟩,F1 0),(⟨w.heap.size + 1,1,none⟩,F1 0),(⟨w.heap.size + 1,2,none⟩,F1 0),(⟨w.heap.size + 1,3,none⟩,F1 0),(⟨w.heap.size + 1,4,none⟩,F1 0),(⟨w.heap.size + 1,5,none⟩,F1 0)] [⟨w.heap.size,0,none⟩,⟨w.heap.size,1,none⟩,⟨w.heap.size,2,none⟩,⟨w.heap.size,3,none⟩,⟨w.heap.size,4,none⟩,⟨w.heap.size,5,none⟩,⟨w.heap.size + 1,0,none⟩,⟨w.heap.size + 1,1,none⟩,⟨w.heap.size + 1,2,none⟩,⟨w.heap.size + 1,3,none⟩,⟨w.heap.size + 1,4,none⟩,⟨w.heap.size + 1,5,none⟩] ((w8.setCell ⟨w.heap.size,2,none⟩ (F1 l1)).setCell ⟨w.heap.size,3,none⟩ (F1 u1)):=by simp only [Kept,ka,kb,kc,kd,ke,kf,kg];simp [hK,go_sem,World.cell?_setCell_other,World.cell?_setCell_same',World.frozen?_setCell]
   clear hK hkept
   go_wp2_with fail
   exact ⟨⟨2,a0,a1,l1,u1,c0,c1,rfl,.inr (.inr (.inl ⟨rfl,e0,by rw [hr1,e1];rfl,e2⟩)),hset,W4b⟩,by simp [intOf]⟩
  ·go_upto_region 12 with fail
   have hbA:Below wr.heap.size wr (wr.alloc (.cells #[F1 r0] 25)):=(Below.refl _ _).alloc (Nat.le_refl _) _
   have hkept:=kept_app (keep hkept hbA) (show Kept [(⟨wr.heap.size,0,none⟩,F1 r0)] [] (wr.alloc (.cells #[F1 r0] 25)) by simp only [Kept,ka,kb,kc,kd,ke,kf,kg];simp)
   have W2b:=below_step Wb hbA
   clear hK hbA
   generalize wr.alloc (.cells #[F1 r0] 25) = W2 at *
   have hK:=hkept;simp only [Kept,ka,kb,kc,kd,ke,kf,kg] at hK
   go_upto_region 13 with (go_at_call 209;refine (both_div (fun x => B .quo x (cn .f32 r0)) ⟨_,0,none⟩ _ _ _ (fun x w' hb => cl_div x r0 _ 0 w' (by have HK2:=keep hkept hb;simp only [Kept,ka,kb,kc,kd,ke,kf,kg] at HK2;simp [HK2]))).mono ?_;rintro _ w8 ⟨l1,u1,rfl,hr1,hb1⟩;have W3b:=below_step W2b hb1;have hkept:=keepT hkept hb1 rfl;clear hK;have hK:=hkept;simp only [Kept,ka,kb,kc,kd,ke,kf,kg] at hK)
   have W4b:=(W3b.setCell (p:=⟨w.heap.size,4,none⟩) (Nat.le_refl _) (F1 l1)).setCell (p:=⟨w.heap.size,5,none⟩) (Nat.le_refl _) (F1 u1)
   have hset:Kept [(⟨w.heap.size,0,none⟩,F1 a0),(⟨w.heap.size,1,none⟩,F1 a1),(⟨w.heap.size,2,none⟩,F1 b0),(⟨w.heap.size,3,none⟩,F1 b1),(⟨w.heap.size,4,none⟩,F1 l1),(⟨w.heap.size,5,none⟩,F1 u1),(⟨w.heap.size + 1,0,none⟩,F1 0),(⟨w.heap.size + 1,1,none⟩,F1 0),(⟨w.heap.size + 1,2,none⟩,F1 0),(⟨w.heap.size + 1,3,none⟩,F1 0),(⟨w.heap.size + 1,4,none⟩,F1 0),(⟨w.heap.size + 1,5,none⟩,F1 0)] [⟨w.heap.size,0,none⟩,⟨w.heap.size,1,none⟩,⟨w.heap.size,2,none⟩,⟨w.heap.size,3,none⟩,⟨w.heap.size,4,none⟩,⟨w.heap.size,5,none⟩,⟨w.heap.size + 1,0,none⟩,⟨w.heap.size + 1,1,none⟩,⟨w.heap.size + 1,2,none⟩,⟨w.heap.size + 1,3,none⟩,⟨w.heap.size + 1,4,none⟩,⟨w.heap.size + 1,5,none⟩] ((w8.setCell ⟨w.heap.size,4,none⟩ (F1 l1)).setCell ⟨w.heap.size,5,none⟩ (F1 u1)):=by simp only [Kept,ka,kb,kc,kd,ke,kf,kg];simp [hK,go_sem,World.cell?_setCell_other,World.cell?_setCell_same',World.frozen?_setCell]
   clear hK hkept
   go_wp2_with fail
   exact ⟨⟨3,a0,a1,b0,b1,l1,u1,rfl,.inr (.inr (.inr ⟨rfl,e0,e1,by rw [hr1,e2];rfl⟩)),hset,W4b⟩,by simp [intOf]⟩
  ·go_wp2_with fail
   exact bodyPost_ret (v:=Rg3 a0 a1 b0 b1 c0 c1) (by simp [results,Tryz.results134,go_sem,hK,World.cell?_setCell_other,World.cell?_setCell_same'];first | done | exact ⟨rfl,rfl,rfl,rfl,rfl,rfl⟩) rfl ⟨_,_,_,_,_,_,rfl,e0,e1,e2,bel6 Wb (by omega) ..⟩

set_option maxRecDepth 100000 in
set_option maxHeartbeats 2000000 in
theorem place_quo3 {b o bv ov cap r0 r1 r2 x0 x1 y0 y1 z0 z1:Nat} {bp:Option Addr} {w:World} (hN:Kept [(⟨b,o,none⟩,.int .i64 11),(⟨b,o + 2,none⟩,.int .i64 0),(⟨b,o + 3,none⟩,.slice (some ⟨bv,ov,none⟩) 3 cap),(⟨bv,ov,none⟩,F1 r0),(⟨bv,ov + 1,none⟩,F1 r1),(⟨bv,ov + 2,none⟩,F1 r2)] [] w) :
  Calls Tryz.prog 134 #[.pointer (some ⟨b,o,none⟩),Rg3 x0 x1 y0 y1 z0 z1] w (RetPl (quoR (cn .f32 r0) (cn .f32 x0,cn .f32 x1),quoR (cn .f32 r1) (cn .f32 y0,cn .f32 y1),quoR (cn .f32 r2) (cn .f32 z0,cn .f32 z1)) w):=by
 have hK:=hN
 simp only [Kept,ka,kb,kc,kd,ke,kf,kg] at hK
 have hb:b < w.heap.size:=some_lt (a:=⟨b,o,none⟩) (by rw [hK.1];rfl)
 go_enter Tryz.func134,Tryz.ntmps134
 go_upto_region 1 with fail
 clear hK
 generalize hW:(w.alloc (.cells #[F1 x0,F1 x1,F1 y0,F1 y1,F1 z0,F1 z1] 197)).alloc (.cells #[F1 0,F1 0,F1 0,F1 0,F1 0,F1 0] 197) = W1 at *
 have W1b:Below w.heap.size w W1:=by subst hW;exact (by repeat' (first | exact Below.refl _ _ | exact Nat.le_refl _ | refine below_drewN ?_ _ | refine Below.alloc ?_ (by simp <;> omega) _ | refine Below.setCell ?_ (by simp <;> omega) _ | refine below_step ?_ (by assumption)))
 have hkept:Kept [(⟨w.heap.size,0,none⟩,F1 x0),(⟨w.heap.size,1,none⟩,F1 x1),(⟨w.heap.size,2,none⟩,F1 y0),(⟨w.heap.size,3,none⟩,F1 y1),(⟨w.heap.size,4,none⟩,F1 z0),(⟨w.heap.size,5,none⟩,F1 z1),(⟨w.heap.size + 1,0,none⟩,F1 0),(⟨w.heap.size + 1,1,none⟩,F1 0),(⟨w.heap.size + 1,2,none⟩,F1 0),(⟨w.heap.size + 1,3,none⟩,F1 0),(⟨w.heap.size + 1,4,none⟩,F1 0),(⟨w.heap.size + 1,5,none⟩,F1 0)] [⟨w.heap.size,0,none⟩,⟨w.heap.size,1,none⟩,⟨w.heap.size,2,none⟩,⟨w.heap.size,3,none⟩,⟨w.heap.size,4,none⟩,⟨w.heap.size,5,none⟩,⟨w.heap.size + 1,0,none⟩,⟨w.heap.size + 1,1,none⟩,⟨w.heap.size + 1,2,none⟩,⟨w.heap.size + 1,3,none⟩,⟨w.heap.size + 1,4,none⟩,⟨w.heap.size + 1,5,none⟩] W1:=by
  subst hW;simp only [Kept,ka,kb,kc,kd,ke,kf,kg];(first | (go_simp;done) | (simp [World.cell?,World.frozen?,World.alloc,Array.getElem?_push];done))
 clear hW
 have hkept:=kept_app (keep hN W1b) hkept
 have hK:=hkept;simp only [Kept,ka,kb,kc,kd,ke,kf,kg] at hK
 have hb1:b < W1.heap.size:=Nat.lt_of_lt_of_le hb W1b.size
 go_upto_region 2 with fail
 refine Qr.wp_below_all (by kernel_rfl) (by kernel_rfl) PhiPl2 ?_
 repeat (first | (refine Qr.walk_plain rfl fun K hK => ?_;refine one_bin _ _ _ _ _ rfl _ _ _ rfl rfl rfl (fun r hr => ?_);go_simp;refine hK _ ?_;clear hK K) | (refine Qr.walk_plain rfl fun K hK => ?_;apply Qr.one_det;(focus (intro w' hw';have HK:=keep hkept hw';simp only [Kept,ka,kb,kc,kd,ke,kf,kg] at HK;go_simp;first | done | rfl));go_simp;refine hK _ ?_;clear hK K))
 refine Qr.walk_nil fun w6 hw6 => ?_
 have hkept:=keep hkept hw6
 have W6b:=below_step W1b hw6
 clear hK
 have hK:=hkept
 simp only [Kept,ka,kb,kc,kd,ke,kf,kg] at hK
 go_wp2_with fail
 have hc6:Kept [(⟨w.heap.size,0,none⟩,F1 x0),(⟨w.heap.size,1,none⟩,F1 x1),(⟨w.heap.size,2,none⟩,F1 y0),(⟨w.heap.size,3,none⟩,F1 y1),(⟨w.heap.size,4,none⟩,F1 z0),(⟨w.heap.size,5,none⟩,F1 z1),(⟨w.heap.size + 1,0,none⟩,F1 0),(⟨w.heap.size + 1,1,none⟩,F1 0),(⟨w.heap.size + 1,2,none⟩,F1 0),(⟨w.heap.size + 1,3,none⟩,F1 0),(⟨w.heap.size + 1,4,none⟩,F1 0),(⟨w.heap.size + 1,5,none⟩,F1 0)] [⟨w.heap.size,0,none⟩,⟨w.heap.size,1,none⟩,⟨w.heap.size,2,none⟩,⟨w.heap.size,3,none⟩,⟨w.heap.size,4,none⟩,⟨w.heap.size,5,none⟩,⟨w.heap.size + 1,0,none⟩,⟨w.heap.size + 1,1,none⟩,⟨w.heap.size + 1,2,none⟩,⟨w.heap.size + 1,3,none⟩,⟨w.heap.size + 1,4,none⟩,⟨w.heap.size + 1,5,none⟩] w6:=by simp only [Kept,ka,kb,kc,kd,ke,kf,kg];simp [hK]
 have hall:∃ (m a0 a1 b0 b1 c0 c1:Nat),Value.int IntKind.i64 0 = .int .i64 (m:Int) ∧ ((m = 0 ∧ (cn .f32 a0,cn .f32 a1) = (cn .f32 x0,cn .f32 x1) ∧ (cn .f32 b0,cn .f32 b1) = (cn .f32 y0,cn .f32 y1) ∧ (cn .f32 c0,cn .f32 c1) = (cn .f32 z0,cn .f32 z1)) ∨ (m = 1 ∧ (cn .f32 a0,cn .f32 a1) = quoR (cn .f32 r0) (cn .f32 x0,cn .f32 x1) ∧ (cn .f32 b0,cn .f32 b1) = (cn .f32 y0,cn .f32 y1) ∧ (cn .f32 c0,cn .f32 c1) = (cn .f32 z0,cn .f32 z1)) ∨ (m = 2 ∧ (cn .f32 a0,cn .f32 a1) = quoR (cn .f32 r0) (cn .f32 x0,cn .f32 x1) ∧ (cn .f32 b0,cn .f32 b1) = quoR (cn .f32 r1) (cn .f32 y0,cn .f32 y1) ∧ (cn .f32 c0,cn .f32 c1) = (cn .f32 z0,cn .f32 z1)) ∨ (m = 3 ∧ (cn .f32 a0,cn .f32 a1) = quoR (cn .f32 r0) (cn .f32 x0,cn .f32 x1) ∧ (cn .f32 b0,cn .f32 b1) = quoR (cn .f32 r1) (cn .f32 y0,cn .f32 y1) ∧ (cn .f32 c0,cn .f32 c1) = quoR (cn .f32 r2) (cn .f32 z0,cn .f32 z1))) ∧ Kept [(⟨w.heap.size,0,none⟩,F1 a0),(⟨w.heap.size,1,none⟩,F1 a1),(⟨w.heap.size,2,none⟩,F1 b0),(⟨w.heap.size,3,none⟩,F1 b1),(⟨w.heap.size,4,none⟩,F1 c0),(⟨w.heap.size,5,none⟩,F1 c1),(⟨w.heap.size + 1,0,none⟩,F1 0),(⟨w.heap.size + 1,1,none⟩,F1 0),(⟨w.heap.size + 1,2,none⟩,F1 0),(⟨w.heap.size + 1,3,none⟩,F1 0),(⟨w.heap.size + 1,4,none⟩,F1 0),(⟨w.heap.size + 1,5,none⟩,F1 0)] [⟨w.heap.size,0,none⟩,⟨w.heap.size,1,none⟩,⟨w.heap.size,2,none⟩,⟨w.heap.size,3,none⟩,⟨w.heap.size,4,none⟩,⟨w.heap.size,5,none⟩,⟨w.heap.size + 1,0,none⟩,⟨w.heap.size + 1,1,none⟩,⟨w.heap.size + 1,2,none⟩,⟨w.heap.size + 1,3,none⟩,⟨w.heap.size + 1,4,none⟩,⟨w.heap.size + 1,5,none⟩] w6 ∧ Below w.heap.size w w6:=⟨0,x0,x1,y0,y1,z0,z1,rfl,.inl ⟨rfl,rfl,rfl,rfl⟩,hc6,W6b⟩
 clear hK hkept hw6 hb1 hc6
 go_loopw [56] (fun i wr => ∃ (m a0 a1 b0 b1 c0 c1:Nat),i = .int .i64 (m:Int) ∧ ((m = 0 ∧ (cn .f32 a0,cn .f32 a1) = (cn .f32 x0,cn .f32 x1) ∧ (cn .f32 b0,cn .f32 b1) = (cn .f32 y0,cn .f32 y1) ∧ (cn .f32 c0,cn .f32 c1) = (cn .f32 z0,cn .f32 z1)) ∨ (m = 1 ∧ (cn .f32 a0,cn .f32 a1) = quoR (cn .f32 r0) (cn .f32 x0,cn .f32 x1) ∧ (cn .f32 b0,cn .f32 b1) = (cn .f32 y0,cn .f32 y1) ∧ (cn .f32 c0,cn .f32 c1) = (cn .f32 z0,cn .f32 z1)) ∨ (m = 2 ∧ (cn .f32 a0,cn .f32 a1) = quoR (cn .f32 r0) (cn .f32 x0,cn .f32 x1) ∧ (cn .f32 b0,cn .f32 b1) = quoR (cn .f32 r1) (cn .f32 y0,cn .f32 y1) ∧ (cn .f32 c0,cn .f32 c1) = (cn .f32 z0,cn .f32 z1)) ∨ (m = 3 ∧ (cn .f32 a0,cn .f32 a1) = quoR (cn .f32 r0) (cn .f32 x0,cn .f32 x1) ∧ (cn .f32 b0,cn .f32 b1) = quoR (cn .f32 r1) (cn .f32 y0,cn .f32 y1) ∧ (cn .f32 c0,cn .f32 c1) = quoR (cn .f32 r2) (cn .f32 z0,cn .f32 z1))) ∧ Kept [(⟨w.heap.size,0,none⟩,F1 a0),(⟨w.heap.size,1,none⟩,F1 a1),(⟨w.heap.size,2,none⟩,F1 b0),(⟨w.heap.size,3,none⟩,F1 b1),(⟨w.heap.size,4,none⟩,F1 c0),(⟨w.heap.size,5,none⟩,F1 c1),(⟨w.heap.size + 1,0,none⟩,F1 0),(⟨w.heap.size + 1,1,none⟩,F1 0),(⟨w.heap.size + 1,2,none⟩,F1 0),(⟨w.heap.size + 1,3,none⟩,F1 0),(⟨w.heap.size + 1,4,none⟩,F1 0),(⟨w.heap.size + 1,5,none⟩,F1 0)] [⟨w.heap.size,0,none⟩,⟨w.heap.size,1,none⟩,⟨w.heap.size,2,none⟩,⟨w.heap.size,3,none⟩,⟨w.heap.size,4,none⟩,⟨w.heap.size,5,none⟩,⟨w.heap.size + 1,0,none⟩,⟨w.heap.size + 1,1,none⟩,⟨w.heap.size + 1,2,none⟩,⟨w.heap.size + 1,3,none⟩,⟨w.heap.size + 1,4,none⟩,⟨w.heap.size + 1,5,none⟩] wr ∧ Below w.heap.size w wr) (fun i _ => 3 - (intOf i).toNat)
 case atStart => exact hall
 case round =>
  clear hall
  obtain ⟨m,a0,a1,b0,b1,c0,c1,rfl,hm,hkept,Wb⟩:=hrel
  have hkept:=kept_app (keep hN Wb) hkept
  have hK:=hkept;simp only [Kept,ka,kb,kc,kd,ke,kf,kg] at hK
  rcases hm with ⟨rfl,e0,e1,e2⟩ | ⟨rfl,e0,e1,e2⟩ | ⟨rfl,e0,e1,e2⟩ | ⟨rfl,e0,e1,e2⟩
  ·go_upto_region 12 with fail
   have hbA:Below wr.heap.size wr (wr.alloc (.cells #[F1 r0] 25)):=(Below.refl _ _).alloc (Nat.le_refl _) _
   have hkept:=kept_app (keep hkept hbA) (show Kept [(⟨wr.heap.size,0,none⟩,F1 r0)] [] (wr.alloc (.cells #[F1 r0] 25)) by simp only [Kept,ka,kb,kc,kd,ke,kf,kg];simp)
   have W2b:=below_step Wb hbA
   clear hK hbA
   generalize wr.alloc (.cells #[F1 r0] 25) = W2 at *
   have hK:=hkept;simp only [Kept,ka,kb,kc,kd,ke,kf,kg] at hK
   go_upto_region 13 with (go_at_call 209;refine (both_div (fun x => B .quo x (cn .f32 r0)) ⟨_,0,none⟩ _ _ _ (fun x w' hb => cl_div x r0 _ 0 w' (by have HK2:=keep hkept hb;simp only [Kept,ka,kb,kc,kd,ke,kf,kg] at HK2;simp [HK2]))).mono ?_;rintro _ w8 ⟨l1,u1,rfl,hr1,hb1⟩;have W3b:=below_step W2b hb1;have hkept:=keepT hkept hb1 rfl;clear hK;have hK:=hkept;simp only [Kept,ka,kb,kc,kd,ke,kf,kg] at hK)
   have W4b:=(W3b.setCell (p:=⟨w.heap.size,0,none⟩) (Nat.le_refl _) (F1 l1)).setCell (p:=⟨w.heap.size,1,none⟩) (Nat.le_refl _) (F1 u1)
   have hset:Kept [(⟨w.heap.size,0,none⟩,F1 l1),(⟨w.heap.size,1,none⟩,F1 u1),(⟨w.heap.size,2,none⟩,F1 b0),(⟨w.heap.size,3,none⟩,F1 b1),(⟨w.heap.size,4,none⟩,F1 c0),(⟨w.heap.size,5,none⟩,F1 c1),(⟨w.heap.size + 1,0,none⟩,F1 0),(⟨w.heap.size + 1,1,none⟩,F1 0),(⟨w.heap.size + 1,2,none⟩,F1 0),(⟨w.heap.size + 1,3,none⟩,F1 0),(⟨w.heap.size + 1,4,none⟩,F1 0),(⟨w.heap.size + 1,5,none⟩,F1 0)] [⟨w.heap.size,0,none⟩,⟨w.heap.size,1,none⟩,⟨w.heap.size,2,none⟩,⟨w.heap.size,3,none⟩,⟨w.heap.size,4,none⟩,⟨w.heap.size,5,none⟩,⟨w.heap.size + 1,0,none⟩,⟨w.heap.size + 1,1,none⟩,⟨w.heap.size + 1,2,none⟩,⟨w.heap.size + 1,3,none⟩,⟨w.heap.size + 1,4,none⟩,⟨w.heap.size + 1,5,none⟩] ((w8.setCell ⟨w.heap.size,0,none⟩ (F1 l1)).setCell ⟨w.heap.size,1,none⟩ (F1 u1)):=by simp only [Kept,ka,kb,kc,kd,ke,kf,kg];simp [hK,go_sem,World.cell?_setCell_other,World.cell?_setCell_same',World.frozen?_setCell]
   clear hK hkept
   go_wp2_with fail
   exact ⟨⟨1,l1,u1,b0,b1,c0,c1,rfl,.inr (.inl ⟨rfl,by rw [hr1,e0];rfl,e1,e2⟩),hset,W4b⟩,by simp [intOf]⟩
  ·go_upto_region 12 with fail
   have hbA:Below wr.heap.size wr (wr.alloc (.cells #[F1 r1] 25)):=(Below.refl _ _).alloc (Nat.le_refl _) _
   have hkept:=kept_app (keep hkept hbA) (show Kept [(⟨wr.heap.size,0,none⟩,F1 r1)] [] (wr.alloc (.cells #[F1 r1] 25)) by simp only [Kept,ka,kb,kc,kd,ke,kf,kg];simp)
   have W2b:=below_step Wb hbA
   clear hK hbA
   generalize wr.alloc (.cells #[F1 r1] 25) = W2 at *
   have hK:=hkept;simp only [Kept,ka,kb,kc,kd,ke,kf,kg] at hK
   go_upto_region 13 with (go_at_call 209;refine (both_div (fun x => B .quo x (cn .f32 r1)) ⟨_,0,none⟩ _ _ _ (fun x w' hb => cl_div x r1 _ 0 w' (by have HK2:=keep hkept hb;simp only [Kept,ka,kb,kc,kd,ke,kf,kg] at HK2;simp [HK2]))).mono ?_;rintro _ w8 ⟨l1,u1,rfl,hr1,hb1⟩;have W3b:=below_step W2b hb1;have hkept:=keepT hkept hb1 rfl;clear hK;have hK:=hkept;simp only [Kept,ka,kb,kc,kd,ke,kf,kg] at hK)
   have W4b:=(W3b.setCell (p:=⟨w.heap.size,2,none⟩) (Nat.le_refl _) (F1 l1)).setCell (p:=⟨w.heap.size,3,none⟩) (Nat.le_refl _) (F1 u1)
   have hset:Kept [(⟨w.heap.size,0,none⟩,F1 a0),(⟨w.heap.size,1,none⟩,F1 a1),(⟨w.heap.size,2,none⟩,F1 l1),(⟨w.heap.size,3,none⟩,F1 u1),(⟨w.heap.size,4,none⟩,F1 c0),(⟨w.heap.size,5,none⟩,F1 c1),(⟨w.heap.size + 1,0,none⟩,F1 0),(⟨w.heap.size + 1,1,none⟩,F1 0),(⟨w.heap.size + 1,2,none⟩,F1 0),(⟨w.heap.size + 1,3,none⟩,F1 0),(⟨w.heap.size + 1,4,none⟩,F1 0),(⟨w.heap.size + 1,5,none⟩,F1 0)] [⟨w.heap.size,0,none⟩,⟨w.heap.size,1,none⟩,⟨w.heap.size,2,none⟩,⟨w.heap.size,3,none⟩,⟨w.heap.size,4,none⟩,⟨w.heap.size,5,none⟩,⟨w.heap.size + 1,0,none⟩,⟨w.heap.size + 1,1,none⟩,⟨w.heap.size + 1,2,none⟩,⟨w.heap.size + 1,3,none⟩,⟨w.heap.size + 1,4,none⟩,⟨w.heap.size + 1,5,none⟩] ((w8.setCell ⟨w.heap.size,2,none⟩ (F1 l1)).setCell ⟨w.heap.size,3,none⟩ (F1 u1)):=by simp only [Kept,ka,kb,kc,kd,ke,kf,kg];simp [hK,go_sem,World.cell?_setCell_other,World.cell?_setCell_same',World.frozen?_setCell]
   clear hK hkept
   go_wp2_with fail
   exact ⟨⟨2,a0,a1,l1,u1,c0,c1,rfl,.inr (.inr (.inl ⟨rfl,e0,by rw [hr1,e1];rfl,e2⟩)),hset,W4b⟩,by simp [intOf]⟩
  ·go_upto_region 12 with fail
   have hbA:Below wr.heap.size wr (wr.alloc (.cells #[F1 r2] 25)):=(Below.refl _ _).alloc (Nat.le_refl _) _
   have hkept:=kept_app (keep hkept hbA) (show Kept [(⟨wr.heap.size,0,none⟩,F1 r2)] [] (wr.alloc (.cells #[F1 r2] 25)) by simp only [Kept,ka,kb,kc,kd,ke,kf,kg];simp)
   have W2b:=below_step Wb hbA
   clear hK hbA
   generalize wr.alloc (.cells #[F1 r2] 25) = W2 at *
   have hK:=hkept;simp only [Kept,ka,kb,kc,kd,ke,kf,kg] at hK
   go_upto_region 13 with (go_at_call 209;refine (both_div (fun x => B .quo x (cn .f32 r2)) ⟨_,0,none⟩ _ _ _ (fun x w' hb => cl_div x r2 _ 0 w' (by have HK2:=keep hkept hb;simp only [Kept,ka,kb,kc,kd,ke,kf,kg] at HK2;simp [HK2]))).mono ?_;rintro _ w8 ⟨l1,u1,rfl,hr1,hb1⟩;have W3b:=below_step W2b hb1;have hkept:=keepT hkept hb1 rfl;clear hK;have hK:=hkept;simp only [Kept,ka,kb,kc,kd,ke,kf,kg] at hK)
   have W4b:=(W3b.setCell (p:=⟨w.heap.size,4,none⟩) (Nat.le_refl _) (F1 l1)).setCell (p:=⟨w.heap.size,5,none⟩) (Nat.le_refl _) (F1 u1)
   have hset:Kept [(⟨w.heap.size,0,none⟩,F1 a0),(⟨w.heap.size,1,none⟩,F1 a1),(⟨w.heap.size,2,none⟩,F1 b0),(⟨w.heap.size,3,none⟩,F1 b1),(⟨w.heap.size,4,none⟩,F1 l1),(⟨w.heap.size,5,none⟩,F1 u1),(⟨w.heap.size + 1,0,none⟩,F1 0),(⟨w.heap.size + 1,1,none⟩,F1 0),(⟨w.heap.size + 1,2,none⟩,F1 0),(⟨w.heap.size + 1,3,none⟩,F1 0),(⟨w.heap.size + 1,4,none⟩,F1 0),(⟨w.heap.size + 1,5,none⟩,F1 0)] [⟨w.heap.size,0,none⟩,⟨w.heap.size,1,none⟩,⟨w.heap.size,2,none⟩,⟨w.heap.size,3,none⟩,⟨w.heap.size,4,none⟩,⟨w.heap.size,5,none⟩,⟨w.heap.size + 1,0,none⟩,⟨w.heap.size + 1,1,none⟩,⟨w.heap.size + 1,2,none⟩,⟨w.heap.size + 1,3,none⟩,⟨w.heap.size + 1,4,none⟩,⟨w.heap.size + 1,5,none⟩] ((w8.setCell ⟨w.heap.size,4,none⟩ (F1 l1)).setCell ⟨w.heap.size,5,none⟩ (F1 u1)):=by simp only [Kept,ka,kb,kc,kd,ke,kf,kg];simp [hK,go_sem,World.cell?_setCell_other,World.cell?_setCell_same',World.frozen?_setCell]
   clear hK hkept
   go_wp2_with fail
   exact ⟨⟨3,a0,a1,b0,b1,l1,u1,rfl,.inr (.inr (.inr ⟨rfl,e0,e1,by rw [hr1,e2];rfl⟩)),hset,W4b⟩,by simp [intOf]⟩
  ·go_wp2_with fail
   exact bodyPost_ret (v:=Rg3 a0 a1 b0 b1 c0 c1) (by simp [results,Tryz.results134,go_sem,hK,World.cell?_setCell_other,World.cell?_setCell_same'];first | done | exact ⟨rfl,rfl,rfl,rfl,rfl,rfl⟩) rfl ⟨_,_,_,_,_,_,rfl,e0,e1,e2,bel6 Wb (by omega) ..⟩

end Go.Proofs.YtbiacfkiakddiaaGreat
