/-
 Lemmas: V36,V39.
-/
import Derived.Test.YtbiacfkiakddiaaGreatMcf
import Derived.Test.YtbiacfkiakddiaaGreatMcl
set_option linter.unusedVariables false
set_option linter.unusedSimpArgs false
namespace Go.Proofs.YtbiacfkiakddiaaGreat
open Go.RowKit Go.Fl
set_option maxRecDepth 100000 in
set_option maxHeartbeats 4000000 in
theorem s_rroot_any (ns:List PN) (hok:OkAll ns) (hl:1 ≤ ns.length ∧ ns.length ≤ 16) (sb so nb no cap bb bo a b c d e f:Nat) (w:World) (hsh:ShapeIn ns sb so nb no cap w) (hbx:Kept [(⟨bb,bo,none⟩,F1 a),(⟨bb,bo + 1,none⟩,F1 b),(⟨bb,bo + 2,none⟩,F1 c),(⟨bb,bo + 3,none⟩,F1 d),(⟨bb,bo + 4,none⟩,F1 e),(⟨bb,bo + 5,none⟩,F1 f)] [] w) :
  Calls Tryz.prog 141 #[.pointer (some ⟨sb,so,none⟩),.pointer (some ⟨bb,bo,none⟩)] w (RetR (topR (rangesS ns ((cn .f32 a,cn .f32 d),(cn .f32 b,cn .f32 e),(cn .f32 c,cn .f32 f))) ns.length) w):=by
 have hr0:(0:Int) ≤ (ns.length:Int) - 1:=by omega
 have hr3:((ns.length:Int) - 1).toNat = ns.length - 1:=by omega
 have hr4:(ns.length:Int) - 1 < (ns.length:Int):=by omega
 have hwr:IntKind.i64.wrap ((ns.length:Int) - 1) = (ns.length:Int) - 1:=by
  rw [IntKind.wrap_i64]
  omega
 go_enter Tryz.func141,Tryz.ntmps141
 go_upto_region 1 with fail
 generalize hW:w.alloc (.cells #[F1 0,F1 0] 118) = W1 at *
 have W1b:Below w.heap.size w W1:=by subst hW;exact (by repeat' (first | exact Below.refl _ _ | exact Nat.le_refl _ | refine below_drewN ?_ _ | refine Below.alloc ?_ (by simp <;> omega) _ | refine Below.setCell ?_ (by simp <;> omega) _ | refine below_step ?_ (by assumption)))
 have hkept:Kept [(⟨w.heap.size,0,none⟩,F1 0),(⟨w.heap.size,1,none⟩,F1 0)] [⟨w.heap.size,0,none⟩,⟨w.heap.size,1,none⟩] W1:=by
  subst hW;simp only [Kept,ka,kb,kc,kd,ke,kf,kg];(first | (go_simp;done) | (simp [World.cell?,World.frozen?,World.alloc,Array.getElem?_push];done))
 clear hW
 have hK:=hkept;simp only [Kept,ka,kb,kc,kd,ke,kf,kg] at hK
 have hra:=s_ranges_any ns hok hl sb so nb no cap bb bo a b c d e f W1 (hsh.keep W1b) (keep hbx W1b)
 go_upto_region 2 with (go_at_call 62;refine hra.mono ?_;rintro _ w4 ⟨v,rs,rfl,hown,hrs,hb1⟩;have W1b:=below_step W1b hb1;have hkept:=keepT hkept hb1 rfl;clear hK;have hK:=hkept;simp only [Kept,ka,kb,kc,kd,ke,kf,kg] at hK)
 clear hra
 obtain ⟨g6,cap6,rfl,hg6,hg6s⟩:=hown.form (by omega)
 have hlen:rs.length = ns.length:=by have:=hown.1;rw [fr_len] at this;omega
 obtain ⟨f0,f1⟩:=fr_get rs (ns.length - 1) (by omega)
 have hA0:=hown.cellAt ((ns.length - 1) * 2) (by omega)
 have hA1:=hown.cellAt ((ns.length - 1) * 2 + 1) (by omega)
 rw [f0] at hA0
 rw [f1] at hA1
 have hget:Hid (topR (rangesS ns ((cn .f32 a,cn .f32 d),(cn .f32 b,cn .f32 e),(cn .f32 c,cn .f32 f))) ns.length = cn2 rs[ns.length - 1]):=by unfold Hid topR;rw [← hrs,List.getD_eq_getElem?_getD,List.getElem?_map,List.getElem?_eq_getElem (show ns.length - 1 < rs.length by omega)];rfl
 clear f0 f1
 generalize rs[ns.length - 1] = ra at *
 clear hown hrs
 go_wp2_with fail
 exact bodyPost_ret (v:=RgV ra.1 ra.2) (by simp [results,Tryz.results141,go_sem,hK,World.cell?_setCell_other,World.cell?_setCell_same'];first | done | exact ⟨rfl,rfl⟩) rfl ⟨_,_,rfl,hget.out.symm,bel2 W1b (by omega) ..⟩

end Go.Proofs.YtbiacfkiakddiaaGreat

namespace Go.Proofs.YtbiacfkiakddiaaGreat
open Go.RowKit Go.Fl
set_option maxRecDepth 100000 in
set_option maxHeartbeats 4000000 in
theorem s_sign_any (ns:List PN) (hok:OkAll ns) (hl:1 ≤ ns.length ∧ ns.length ≤ 16) (sb so nb no cap bb bo a b c d e f:Nat) (w:World) (hsh:ShapeIn ns sb so nb no cap w) (hbx:Kept [(⟨bb,bo,none⟩,F1 a),(⟨bb,bo + 1,none⟩,F1 b),(⟨bb,bo + 2,none⟩,F1 c),(⟨bb,bo + 3,none⟩,F1 d),(⟨bb,bo + 4,none⟩,F1 e),(⟨bb,bo + 5,none⟩,F1 f)] [] w) :
  Calls Tryz.prog 72 #[.pointer (some ⟨sb,so,none⟩),.pointer (some ⟨bb,bo,none⟩)] w (RetSg (signP (topR (rangesS ns ((cn .f32 a,cn .f32 d),(cn .f32 b,cn .f32 e),(cn .f32 c,cn .f32 f))) ns.length)) w):=by
 obtain ⟨S,hS⟩:∃ S,Hid (signP (topR (rangesS ns ((cn .f32 a,cn .f32 d),(cn .f32 b,cn .f32 e),(cn .f32 c,cn .f32 f))) ns.length) = S):=⟨_,rfl⟩
 rw [hS.out]
 have hra:=s_rroot_any ns hok hl sb so nb no cap bb bo a b c d e f w hsh hbx
 generalize topR (rangesS ns ((cn .f32 a,cn .f32 d),(cn .f32 b,cn .f32 e),(cn .f32 c,cn .f32 f))) ns.length = R at *
 have W1b:=Below.refl w.heap.size w
 go_enter Tryz.func72,Tryz.ntmps72
 go_upto_region 2 with (go_at_call 141;refine hra.mono ?_;rintro _ w4 ⟨l,h,rfl,e0,hb1⟩;have W1b:=below_step W1b hb1)
 replace hS:=hS.out
 rw [← e0] at hS
 replace hS:=(sign_raw _ _).symm.trans hS
 have hw:=W1b.size
 cases h1:FloatKind.f32.format.order h 0 == some .lt <;> cases h2:FloatKind.f32.format.order l 0 == some .gt
 all_goals
  rw [h1,h2] at hS
  simp only [Bool.false_eq_true,if_false,if_true] at hS
  subst hS
  go_wp2_with fail
  go_ret
  exact ⟨rfl,W1b.alloc (by omega) _⟩

end Go.Proofs.YtbiacfkiakddiaaGreat
