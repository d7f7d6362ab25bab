/-
 Lemmas: V38.
-/
import Derived.Test.YtbiacfkiakddiaaGreatMcd
set_option linter.unusedVariables false
set_option linter.unusedSimpArgs false
namespace Go.Proofs.YtbiacfkiakddiaaGreat
open Go.RowKit Go.Fl
/-- The sign of a range. -/
def signP (R:Nat × Nat):Int:=if ltk .f32 R.2 0 then -1 else if gtk .f32 R.1 0 then 1 else 0
def RetSg (s:Int) (w:World) (e:Ending) (w':World):Prop:=e = .returned (.int .i64 s) ∧ Below w.heap.size w w'
theorem sign_raw (l h:Nat):signP (cn .f32 l,cn .f32 h) = (if FloatKind.f32.format.order h 0 == some .lt then -1 else if FloatKind.f32.format.order l 0 == some .gt then 1 else 0):=by
 unfold signP ltk gtk
 rw [ord_r0,ord_r0]

set_option maxRecDepth 100000 in
set_option maxHeartbeats 4000000 in
theorem sign_any (ns:List PN) (hok:OkAll ns) (hl:1 ≤ ns.length ∧ ns.length ≤ 16) (sb so nb no cap a b c d e f:Nat) (w:World) (hsh:ShapeIn ns sb so nb no cap w) :
  Calls Tryz.prog 75 #[.pointer (some ⟨sb,so,none⟩),BoxV a b c d e f] w (RetSg (signP (topR (rangesF ns ((cn .f32 a,cn .f32 d),(cn .f32 b,cn .f32 e),(cn .f32 c,cn .f32 f))) ns.length)) w):=by
 have hr0:(0:Int) ≤ (ns.length:Int) - 1:=by omega
 have hr3:((ns.length:Int) - 1).toNat = ns.length - 1:=by omega
 have hr4:(ns.length:Int) - 1 < (ns.length:Int):=by omega
 obtain ⟨S,hS⟩:∃ S,Hid (signP (topR (rangesF ns ((cn .f32 a,cn .f32 d),(cn .f32 b,cn .f32 e),(cn .f32 c,cn .f32 f))) ns.length) = S):=⟨_,rfl⟩
 rw [hS.out]
 go_enter Tryz.func75,Tryz.ntmps75
 go_upto_region 1 with fail
 generalize hW:w.alloc (.cells #[F1 a,F1 b,F1 c,F1 d,F1 e,F1 f] 40) = W1 at *
 have W1b:Below w.heap.size w W1:=by subst hW;exact (by repeat' (first | exact Below.refl _ _ | exact Nat.le_refl _ | refine below_drewN ?_ _ | refine Below.alloc ?_ (by simp <;> omega) _ | refine Below.setCell ?_ (by simp <;> omega) _ | refine below_step ?_ (by assumption)))
 have hkept:Kept [(⟨w.heap.size,0,none⟩,F1 a),(⟨w.heap.size,1,none⟩,F1 b),(⟨w.heap.size,2,none⟩,F1 c),(⟨w.heap.size,3,none⟩,F1 d),(⟨w.heap.size,4,none⟩,F1 e),(⟨w.heap.size,5,none⟩,F1 f)] [] W1:=by
  subst hW;simp only [Kept,ka,kb,kc,kd,ke,kf,kg];(first | (go_simp;done) | (simp [World.cell?,World.frozen?,World.alloc,Array.getElem?_push];done))
 clear hW
 have hK:=hkept;simp only [Kept,ka,kb,kc,kd,ke,kf,kg] at hK
 have hsh2:=hsh.keep W1b
 have hra:=ranges_any ns hok hl sb so nb no cap a b c d e f W1 hsh2
 go_upto_region 2 with (first
  | (go_at_call 67;refine hra.mono ?_;rintro _ w4 ⟨g,O,rfl,hpb,hO,hg,hb1⟩;have hgw:w.heap.size ≤ g:=Nat.le_trans W1b.size hg;have W1b:=below_step W1b hb1;have hsh2:=hsh2.keep hb1;have hkept:=keepT hkept hb1 rfl;clear hK;have hK:=hkept;simp only [Kept,ka,kb,kc,kd,ke,kf,kg] at hK;obtain ⟨q0,q1⟩:=vec2_at hpb (ns.length - 1) (by omega))
  | (go_at_call 83;refine (last_any sb so _ _ _ _ hsh2.list).mono ?_;rintro _ _ ⟨rfl,rfl⟩;rw [last_len ⟨hl.1,by omega⟩]))
 have hget:=hO (ns.length - 1) (by omega)
 replace hS:=hS.out
 unfold topR at hS
 rw [← hget] at hS
 replace hS:=(sign_raw _ _).symm.trans hS
 clear hra hO hget hpb
 generalize (O (ns.length - 1)).1 = l at *
 generalize (O (ns.length - 1)).2 = h at *
 have hw:=W1b.size
 cases h1:FloatKind.f32.format.order h 0 == some .lt <;> cases h2:FloatKind.f32.format.order l 0 == some .gt
 all_goals
  rw [h1,h2] at hS
  simp only [Bool.false_eq_true,if_false,if_true] at hS
  subst hS
  go_wp2_with fail
  go_ret
  exact ⟨rfl,W1b.alloc (by omega) _⟩

end Go.Proofs.YtbiacfkiakddiaaGreat
