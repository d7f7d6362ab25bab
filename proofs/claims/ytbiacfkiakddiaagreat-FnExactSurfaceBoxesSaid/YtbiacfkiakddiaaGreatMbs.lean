/-
 Lemmas: V18.
-/
import Derived.Test.YtbiacfkiakddiaaGreatMbr
set_option linter.unusedVariables false
set_option linter.unusedSimpArgs false
namespace Go.Proofs.YtbiacfkiakddiaaGreat
open Go.RowKit Go.Fl
set_option maxRecDepth 100000 in
set_option maxHeartbeats 2000000 in
theorem place_round {b o bv ov cap r0 x0 x1 y0 y1 z0 z1:Nat} {bp:Option Addr} {w:World} (hN:Kept [(⟨b,o,none⟩,.int .i64 15),(⟨b,o + 2,none⟩,.int .i64 0),(⟨b,o + 3,none⟩,.slice (some ⟨bv,ov,none⟩) 1 cap),(⟨bv,ov,none⟩,F1 r0)] [] w) :
  Calls Tryz.prog 134 #[.pointer (some ⟨b,o,none⟩),Rg3 x0 x1 y0 y1 z0 z1] w (RetPl ((cn .f32 x0,cn .f32 x1),(cn .f32 y0,cn .f32 y1),(cn .f32 z0,cn .f32 z1)) w):=by
 have hK:=hN
 simp only [Kept,ka,kb,kc,kd,ke,kf,kg] at hK
 have hb:b < w.heap.size:=some_lt (a:=⟨b,o,none⟩) (by rw [hK.1];rfl)
 go_enter Tryz.func134,Tryz.ntmps134
 go_upto_region 1 with fail
 clear hK
 generalize hW:(w.alloc (.cells #[F1 x0,F1 x1,F1 y0,F1 y1,F1 z0,F1 z1] 197)).alloc (.cells #[F1 0,F1 0,F1 0,F1 0,F1 0,F1 0] 197) = W1 at *
 have W1b:Below w.heap.size w W1:=by subst hW;exact (by repeat' (first | exact Below.refl _ _ | exact Nat.le_refl _ | refine below_drewN ?_ _ | refine Below.alloc ?_ (by simp <;> omega) _ | refine Below.setCell ?_ (by simp <;> omega) _ | refine below_step ?_ (by assumption)))
 have hkept:Kept [(⟨w.heap.size,0,none⟩,F1 x0),(⟨w.heap.size,1,none⟩,F1 x1),(⟨w.heap.size,2,none⟩,F1 y0),(⟨w.heap.size,3,none⟩,F1 y1),(⟨w.heap.size,4,none⟩,F1 z0),(⟨w.heap.size,5,none⟩,F1 z1),(⟨w.heap.size + 1,0,none⟩,F1 0),(⟨w.heap.size + 1,1,none⟩,F1 0),(⟨w.heap.size + 1,2,none⟩,F1 0),(⟨w.heap.size + 1,3,none⟩,F1 0),(⟨w.heap.size + 1,4,none⟩,F1 0),(⟨w.heap.size + 1,5,none⟩,F1 0)] [⟨w.heap.size,0,none⟩,⟨w.heap.size,1,none⟩,⟨w.heap.size,2,none⟩,⟨w.heap.size,3,none⟩,⟨w.heap.size,4,none⟩,⟨w.heap.size,5,none⟩,⟨w.heap.size + 1,0,none⟩,⟨w.heap.size + 1,1,none⟩,⟨w.heap.size + 1,2,none⟩,⟨w.heap.size + 1,3,none⟩,⟨w.heap.size + 1,4,none⟩,⟨w.heap.size + 1,5,none⟩] W1:=by
  subst hW;simp only [Kept,ka,kb,kc,kd,ke,kf,kg];(first | (go_simp;done) | (simp [World.cell?,World.frozen?,World.alloc,Array.getElem?_push];done))
 clear hW
 have hkept:=kept_app (keep hN W1b) hkept
 clear hN
 have hK:=hkept;simp only [Kept,ka,kb,kc,kd,ke,kf,kg] at hK
 have hb1:b < W1.heap.size:=Nat.lt_of_lt_of_le hb W1b.size
 go_upto_region 2 with fail
 refine Qr.wp_below_all (by kernel_rfl) (by kernel_rfl) PhiPl ?_
 repeat (first | (refine Qr.walk_plain rfl fun K hK => ?_;refine one_bin _ _ _ _ _ rfl _ _ _ rfl rfl rfl (fun r hr => ?_);go_simp;refine hK _ ?_;clear hK K) | (refine Qr.walk_plain rfl fun K hK => ?_;apply Qr.one_det;(focus (intro w' hw';have HK:=keep hkept hw';simp only [Kept,ka,kb,kc,kd,ke,kf,kg] at HK;go_simp;first | done | rfl));go_simp;refine hK _ ?_;clear hK K))
 refine Qr.walk_nil fun w6 hw6 => ?_
 have hkept:=keep hkept hw6
 have W6b:=below_step W1b hw6
 clear hK
 have hK:=hkept
 simp only [Kept,ka,kb,kc,kd,ke,kf,kg] at hK
 go_wp2_with fail
 exact bodyPost_ret (v:=Rg3 x0 x1 y0 y1 z0 z1) (by simp [results,Tryz.results134,go_sem,hK,World.cell?_setCell_other,World.cell?_setCell_same'];first | done | exact ⟨rfl,rfl,rfl,rfl,rfl,rfl⟩) rfl ⟨_,_,_,_,_,_,rfl,rfl,rfl,rfl,bel6 W6b (by omega) ..⟩

set_option maxRecDepth 100000 in
set_option maxHeartbeats 2000000 in
theorem place_shell {b o bv ov cap r0 x0 x1 y0 y1 z0 z1:Nat} {bp:Option Addr} {w:World} (hN:Kept [(⟨b,o,none⟩,.int .i64 16),(⟨b,o + 2,none⟩,.int .i64 0),(⟨b,o + 3,none⟩,.slice (some ⟨bv,ov,none⟩) 1 cap),(⟨bv,ov,none⟩,F1 r0)] [] w) :
  Calls Tryz.prog 134 #[.pointer (some ⟨b,o,none⟩),Rg3 x0 x1 y0 y1 z0 z1] w (RetPl ((cn .f32 x0,cn .f32 x1),(cn .f32 y0,cn .f32 y1),(cn .f32 z0,cn .f32 z1)) w):=by
 have hK:=hN
 simp only [Kept,ka,kb,kc,kd,ke,kf,kg] at hK
 have hb:b < w.heap.size:=some_lt (a:=⟨b,o,none⟩) (by rw [hK.1];rfl)
 go_enter Tryz.func134,Tryz.ntmps134
 go_upto_region 1 with fail
 clear hK
 generalize hW:(w.alloc (.cells #[F1 x0,F1 x1,F1 y0,F1 y1,F1 z0,F1 z1] 197)).alloc (.cells #[F1 0,F1 0,F1 0,F1 0,F1 0,F1 0] 197) = W1 at *
 have W1b:Below w.heap.size w W1:=by subst hW;exact (by repeat' (first | exact Below.refl _ _ | exact Nat.le_refl _ | refine below_drewN ?_ _ | refine Below.alloc ?_ (by simp <;> omega) _ | refine Below.setCell ?_ (by simp <;> omega) _ | refine below_step ?_ (by assumption)))
 have hkept:Kept [(⟨w.heap.size,0,none⟩,F1 x0),(⟨w.heap.size,1,none⟩,F1 x1),(⟨w.heap.size,2,none⟩,F1 y0),(⟨w.heap.size,3,none⟩,F1 y1),(⟨w.heap.size,4,none⟩,F1 z0),(⟨w.heap.size,5,none⟩,F1 z1),(⟨w.heap.size + 1,0,none⟩,F1 0),(⟨w.heap.size + 1,1,none⟩,F1 0),(⟨w.heap.size + 1,2,none⟩,F1 0),(⟨w.heap.size + 1,3,none⟩,F1 0),(⟨w.heap.size + 1,4,none⟩,F1 0),(⟨w.heap.size + 1,5,none⟩,F1 0)] [⟨w.heap.size,0,none⟩,⟨w.heap.size,1,none⟩,⟨w.heap.size,2,none⟩,⟨w.heap.size,3,none⟩,⟨w.heap.size,4,none⟩,⟨w.heap.size,5,none⟩,⟨w.heap.size + 1,0,none⟩,⟨w.heap.size + 1,1,none⟩,⟨w.heap.size + 1,2,none⟩,⟨w.heap.size + 1,3,none⟩,⟨w.heap.size + 1,4,none⟩,⟨w.heap.size + 1,5,none⟩] W1:=by
  subst hW;simp only [Kept,ka,kb,kc,kd,ke,kf,kg];(first | (go_simp;done) | (simp [World.cell?,World.frozen?,World.alloc,Array.getElem?_push];done))
 clear hW
 have hkept:=kept_app (keep hN W1b) hkept
 clear hN
 have hK:=hkept;simp only [Kept,ka,kb,kc,kd,ke,kf,kg] at hK
 have hb1:b < W1.heap.size:=Nat.lt_of_lt_of_le hb W1b.size
 go_upto_region 2 with fail
 refine Qr.wp_below_all (by kernel_rfl) (by kernel_rfl) PhiPl ?_
 repeat (first | (refine Qr.walk_plain rfl fun K hK => ?_;refine one_bin _ _ _ _ _ rfl _ _ _ rfl rfl rfl (fun r hr => ?_);go_simp;refine hK _ ?_;clear hK K) | (refine Qr.walk_plain rfl fun K hK => ?_;apply Qr.one_det;(focus (intro w' hw';have HK:=keep hkept hw';simp only [Kept,ka,kb,kc,kd,ke,kf,kg] at HK;go_simp;first | done | rfl));go_simp;refine hK _ ?_;clear hK K))
 refine Qr.walk_nil fun w6 hw6 => ?_
 have hkept:=keep hkept hw6
 have W6b:=below_step W1b hw6
 clear hK
 have hK:=hkept
 simp only [Kept,ka,kb,kc,kd,ke,kf,kg] at hK
 go_wp2_with fail
 exact bodyPost_ret (v:=Rg3 x0 x1 y0 y1 z0 z1) (by simp [results,Tryz.results134,go_sem,hK,World.cell?_setCell_other,World.cell?_setCell_same'];first | done | exact ⟨rfl,rfl,rfl,rfl,rfl,rfl⟩) rfl ⟨_,_,_,_,_,_,rfl,rfl,rfl,rfl,bel6 W6b (by omega) ..⟩

end Go.Proofs.YtbiacfkiakddiaaGreat
