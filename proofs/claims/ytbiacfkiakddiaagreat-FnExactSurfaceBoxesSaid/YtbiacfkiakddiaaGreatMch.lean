/-
 Lemmas: B2,B4,B3,B5,B10.
-/
import Derived.Test.YtbiacfkiakddiaaGreatMcg
import Derived.Deep.RegionLaw
import Derived.Maps.AppendAt
set_option linter.unusedVariables false
set_option linter.unusedSimpArgs false
namespace Go.Proofs.YtbiacfkiakddiaaGreat
open Go.RowKit Go.Fl
def halfS (x:Nat):Nat:=B .mul x 1056964608
/-- Two boxes come back. -/
def RetSs (s:Bx × Bx) (w:World) (e:Ending) (w':World):Prop :=
 ∃ a b c d e1 f a' b' c' d' e' f',e = .returned (.tuple #[BoxV a b c d e1 f,BoxV a' b' c' d' e' f']) ∧ cnB a b c d e1 f = s.1 ∧ cnB a' b' c' d' e' f' = s.2 ∧ Below w.heap.size w w'

theorem co_pick (a b c k:Nat):co (cn .f32 a,cn .f32 b,cn .f32 c) k = cn .f32 (pickF a b c (k:Int)):=by
 unfold co pickF
 by_cases h0:k = 0
 ·subst h0;rfl
 ·by_cases h1:k = 1
  ·subst h1;rfl
  ·rw [if_neg h0,if_neg h1,if_neg (by omega),if_neg (by omega)]
theorem set_pick (a b c v k:Nat):(cn .f32 (setX a (k:Int) v),cn .f32 (setY b (k:Int) v),cn .f32 (setZ c (k:Int) v)) = setCo (cn .f32 a,cn .f32 b,cn .f32 c) k (cn .f32 v):=by
 unfold setCo setX setY setZ
 by_cases h0:k = 0
 ·subst h0;rfl
 ·by_cases h1:k = 1
  ·subst h1;rfl
  ·rw [if_neg h0,if_neg h1,if_neg (by omega),if_neg (by omega),if_neg (by omega),if_neg (by omega),if_neg (by omega)]
theorem ax_one (b:Bx):axG b 1 = 0:=by
 unfold axG
 split <;> rfl


set_option maxRecDepth 100000 in
set_option maxHeartbeats 8000000 in
theorem s_split_any (a b c d e f:Nat) (w:World) :
  Calls Tryz.prog 73 #[BoxV a b c d e f] w (RetSs (splitP halfS (cnB a b c d e f)) w):=by
 obtain ⟨bB,hB⟩:∃ bB,Hid (bB = cnB a b c d e f):=⟨_,rfl⟩
 rw [← hB.out]
 have hwk:∀ k:Nat,Hid (widthP bB k = B .sub (cn .f32 (pickF d e f (k:Int))) (cn .f32 (pickF a b c (k:Int)))):=fun k => by unfold Hid widthP;rw [hB.out];show B .sub (co (cn .f32 d,cn .f32 e,cn .f32 f) k) (co (cn .f32 a,cn .f32 b,cn .f32 c) k) = _;rw [co_pick,co_pick]
 have hwk:=show Hid (∀ k:Nat,Hid (widthP bB k = B .sub (cn .f32 (pickF d e f (k:Int))) (cn .f32 (pickF a b c (k:Int))))) from hwk
 go_enter Tryz.func73,Tryz.ntmps73
 go_upto_region 1 with fail
 generalize hW:((w.alloc (.cells #[F1 a,F1 b,F1 c,F1 d,F1 e,F1 f] 40)).alloc (.cells #[F1 0,F1 0,F1 0,F1 0,F1 0,F1 0] 40)).alloc (.cells #[F1 0,F1 0,F1 0,F1 0,F1 0,F1 0] 40) = W1 at *
 have W1b:Below w.heap.size w W1:=by subst hW;exact (by repeat' (first | exact Below.refl _ _ | exact Nat.le_refl _ | refine below_drewN ?_ _ | refine Below.alloc ?_ (by simp <;> omega) _ | refine Below.setCell ?_ (by simp <;> omega) _ | refine below_step ?_ (by assumption)))
 have hkept:Kept [(⟨w.heap.size,0,none⟩,F1 a),(⟨w.heap.size,1,none⟩,F1 b),(⟨w.heap.size,2,none⟩,F1 c),(⟨w.heap.size,3,none⟩,F1 d),(⟨w.heap.size,4,none⟩,F1 e),(⟨w.heap.size,5,none⟩,F1 f),(⟨w.heap.size + 1,0,none⟩,F1 0),(⟨w.heap.size + 1,1,none⟩,F1 0),(⟨w.heap.size + 1,2,none⟩,F1 0),(⟨w.heap.size + 1,3,none⟩,F1 0),(⟨w.heap.size + 1,4,none⟩,F1 0),(⟨w.heap.size + 1,5,none⟩,F1 0),(⟨w.heap.size + 1 + 1,0,none⟩,F1 0),(⟨w.heap.size + 1 + 1,1,none⟩,F1 0),(⟨w.heap.size + 1 + 1,2,none⟩,F1 0),(⟨w.heap.size + 1 + 1,3,none⟩,F1 0),(⟨w.heap.size + 1 + 1,4,none⟩,F1 0),(⟨w.heap.size + 1 + 1,5,none⟩,F1 0)] [⟨w.heap.size + 1,0,none⟩,⟨w.heap.size + 1,1,none⟩,⟨w.heap.size + 1,2,none⟩,⟨w.heap.size + 1,3,none⟩,⟨w.heap.size + 1,4,none⟩,⟨w.heap.size + 1,5,none⟩,⟨w.heap.size + 1 + 1,0,none⟩,⟨w.heap.size + 1 + 1,1,none⟩,⟨w.heap.size + 1 + 1,2,none⟩,⟨w.heap.size + 1 + 1,3,none⟩,⟨w.heap.size + 1 + 1,4,none⟩,⟨w.heap.size + 1 + 1,5,none⟩] W1:=by
  subst hW;simp only [Kept,ka,kb,kc,kd,ke,kf,kg];(first | (go_simp;done) | (simp [World.cell?,World.frozen?,World.alloc,Array.getElem?_push];done))
 clear hW
 have hK:=hkept;simp only [Kept,ka,kb,kc,kd,ke,kf,kg] at hK
 go_wp2_with fail
 clear hK
 go_loopw [4,5] (fun ax i wr => ∃ (k:Nat),1 ≤ k ∧ k ≤ 3 ∧ i = .int .i64 (k:Int) ∧ ax = .int .i64 (axG bB k:Int) ∧ Below W1.heap.size W1 wr) (fun _ i _ => 3 - (intOf i).toNat)
 case atStart => exact ⟨1,by omega,by omega,rfl,by rw [ax_one];rfl,Below.refl _ _⟩
 case round =>
  obtain ⟨k,hk1,hk,rfl,rfl,Wb⟩:=hrel
  have hkept:=keep hkept Wb
  by_cases hlt:k < 3
  ·have hnx:Hid (axG bB (k + 1) = if gtk .f32 (widthP bB k) (widthP bB (axG bB k)) then k else axG bB k):=rfl
   obtain ⟨ax,hax⟩:∃ ax,Hid (ax = axG bB k):=⟨_,rfl⟩
   rw [← hax.out] at hnx ⊢
   go_upto_region 5 with fail
   refine Qr.wp_below_all (by kernel_rfl) (by kernel_rfl) PhiP ?_
   repeat (first | (refine Qr.walk_plain rfl fun K hK => ?_;refine one_bin _ _ _ _ _ rfl _ _ _ rfl rfl rfl (fun r hr => ?_);go_simp;refine hK _ ?_;clear hK K) | (refine Qr.walk_plain rfl fun K hK => ?_;apply Qr.one_det;(focus (intro w' hw';have HK:=keep hkept hw';simp only [Kept,ka,kb,kc,kd,ke,kf,kg] at HK;go_simp;first | done | rfl));go_simp;refine hK _ ?_;clear hK K) | (refine Qr.walk_plain rfl fun K hK => ?_;apply Qr.one_call;(focus (intro w' hw';go_simp;first | done | exact ⟨rfl,rfl⟩));(focus (intro w' hw'; go_at_call 142;refine (s_pick_any _ _ _ _ _).mono ?_;rintro _ w2 ⟨rfl,hb1⟩ ;exact ⟨_,rfl,by constructor <;> assumption,below_step hw' (by assumption),by assumption⟩));intro v hv;cases hv;go_simp;refine hK _ ?_;clear hK K))
   rename_i r0 hr0
   refine Qr.walk_nil fun w7 hw7 => ?_
   go_wp2_with fail
   all_goals
    rename_i hb
    have hx:=ax_step (i:=k) (ax:=ax) hb hnx.out (((hwk.out k).out).trans hr0.symm) (((hwk.out ax).out).trans hr.symm)
    exact ⟨⟨k + 1,by omega,by omega,by first | rfl | (simp;omega),by rw [hx];rfl,below_step Wb hw7⟩,by simp [intOf];omega⟩
  ·obtain rfl:k = 3:=by omega
   obtain ⟨ax,hax⟩:∃ ax,Hid (ax = axG bB 3):=⟨_,rfl⟩
   rw [← hax.out]
   have W2b:=below_step W1b Wb
   have hK:=hkept;simp only [Kept,ka,kb,kc,kd,ke,kf,kg] at hK
   have hm0:Hid (splitP halfS bB = ((bB.1,setCo bB.2 ax (midB halfS bB)),(setCo bB.1 ax (midB halfS bB),bB.2))):=by rw [hax.out];rfl
   have hmid:Hid (midB halfS bB = B .add (co bB.1 ax) (halfS (widthP bB ax))):=by rw [hax.out];rfl
   go_upto_region 9 with (first | (refine wp_bin rfl _ _ _ _ _ rfl _ _ _ rfl rfl rfl ?_;intro r n hr) | (go_at_call 142;refine (s_pick_any _ _ _ _ _).mono ?_;rintro _ w3 ⟨rfl,hb1⟩;have W2b:=below_step W2b hb1;have hkept:=keepT hkept hb1 rfl;clear hK;have hK:=hkept;simp only [Kept,ka,kb,kc,kd,ke,kf,kg] at hK))
   rename_i r1 n1 h1 r2 n2 h2 K0 aK0
   have hm:cn .f32 r = midB halfS bB:=by
    rw [hmid.out,(hwk.out ax).out,hB.out,hr,h2,h1,show cn .f32 1056964608 = 1056964608 from by decide +kernel]
    show _ = B .add (co (cn .f32 a,cn .f32 b,cn .f32 c) ax) _
    rw [co_pick]
    rfl
   clear h1 h2 hr hK
   have hkept:=keep hkept (show Below w3.heap.size w3 (w3.drewN (n1 + n2 + n)) from below_drewN (Below.refl _ _) _)
   have W4b:=below_drewN W2b (n1 + n2 + n)
   clear hb1 W1b W2b Wb
   generalize w3.drewN (n1 + n2 + n) = w4 at *
   have hw4:w.heap.size + 2 < w4.heap.size:=some_lt (a:=⟨w.heap.size + 1 + 1,0,none⟩) (by have hK:=hkept;simp only [Kept,ka,kb,kc,kd,ke,kf,kg] at hK;simp [hK])
   refine Qr.wp_made 9 8 8 #[F1 0,F1 0,F1 0,F1 0,F1 0,F1 0] 40 (by kernel_rfl) (by kernel_rfl) PhiP rfl (by kernel_rfl) ⟨_,rfl,rfl,fun a w => by go_simp⟩ (by kernel_rfl) ?_
   repeat (first | (refine Qr.walk_plain rfl fun K hK => ?_;refine one_bin _ _ _ _ _ rfl _ _ _ rfl rfl rfl (fun r hr => ?_);go_simp;refine hK _ ?_;clear hK K) | (refine Qr.walk_plain rfl fun K hK => ?_;refine Qr.one_rel (fun v => ∃ g,v = .pointer (some ⟨g,0,none⟩)) (fun w' hw' => ⟨.pointer (some ⟨w'.heap.size,0,none⟩),_,by go_simp;rfl,⟨_,rfl⟩,hw'.alloc hw'.size _,(Below.refl _ _).alloc (Nat.le_refl _) _⟩) (fun v hv => ?_);obtain ⟨g,rfl⟩:=hv;go_simp;refine hK _ ?_;clear hK K) | (refine Qr.walk_plain rfl fun K hK => ?_;apply Qr.one_det;(focus (intro w' hw';have HK:=keep hkept hw';simp only [Kept,ka,kb,kc,kd,ke,kf,kg] at HK;go_simp;first | done | rfl));go_simp;refine hK _ ?_;clear hK K) | (refine Qr.walk_plain rfl fun K hK => ?_;apply Qr.one_call;(focus (intro w' hw';go_simp;first | done | exact ⟨rfl,rfl⟩));(focus (intro w' hw'; go_at_call 143;refine (s_set_any _ _ _ _ _ _).mono ?_;rintro _ w2 ⟨rfl,hb1⟩ ;exact ⟨_,rfl,by constructor <;> assumption,below_step hw' (by assumption),by assumption⟩));intro v hv;cases hv;go_simp;refine hK _ ?_;clear hK K))
   refine Qr.walk_nil fun w5 hw5 hmade => ?_
   obtain ⟨g3,hg3,hgw,hgc⟩:=hmade _ rfl
   injection hg3 with hg3
   injection hg3 with hg3
   subst hg3
   clear hmade
   obtain ⟨⟨p0,p1,p2,p3,p4,p5⟩,q0,q1,q2,q3,q4,q5⟩:=cells6 hgc
   go_upto_region 10 with fail
   obtain ⟨h6,hb6⟩:=set6 hgc (Nat.le_refl g) (F1 a) (F1 b) (F1 c) (F1 (setX d (ax:Int) r)) (F1 (setY e (ax:Int) r)) (F1 (setZ f (ax:Int) r))
   clear p0 p1 p2 p3 p4 p5 q0 q1 q2 q3 q4 q5 hgc
   generalize (((((w5.setCell ⟨g,0,none⟩ (F1 a)).setCell ⟨g,1,none⟩ (F1 b)).setCell ⟨g,2,none⟩ (F1 c)).setCell ⟨g,3,none⟩ (F1 (setX d (ax:Int) r))).setCell ⟨g,4,none⟩ (F1 (setY e (ax:Int) r))).setCell ⟨g,5,none⟩ (F1 (setZ f (ax:Int) r)) = w6 at *
   have hw6:=hw5.trans (hb6.mono hgw)
   clear hw5 hb6
   have hkept:=kept_app (keep hkept hw6) (kept6 h6)
   have W6b:=below_step W4b hw6
   have hg1:w.heap.size + 2 < g:=by omega
   have hsw6:g < w6.heap.size:=(Array.getElem?_eq_some_iff.1 h6).1
   clear h6 hgw hw6
   generalize g = g1 at *
   have hw6:w.heap.size + 2 < w6.heap.size:=by omega
   refine Qr.wp_made 9 8 9 #[F1 0,F1 0,F1 0,F1 0,F1 0,F1 0] 40 (by kernel_rfl) (by kernel_rfl) PhiP rfl (by kernel_rfl) ⟨_,rfl,rfl,fun a w => by go_simp⟩ (by kernel_rfl) ?_
   repeat (first | (refine Qr.walk_plain rfl fun K hK => ?_;refine one_bin _ _ _ _ _ rfl _ _ _ rfl rfl rfl (fun r hr => ?_);go_simp;refine hK _ ?_;clear hK K) | (refine Qr.walk_plain rfl fun K hK => ?_;refine Qr.one_rel (fun v => ∃ g,v = .pointer (some ⟨g,0,none⟩)) (fun w' hw' => ⟨.pointer (some ⟨w'.heap.size,0,none⟩),_,by go_simp;rfl,⟨_,rfl⟩,hw'.alloc hw'.size _,(Below.refl _ _).alloc (Nat.le_refl _) _⟩) (fun v hv => ?_);obtain ⟨g,rfl⟩:=hv;go_simp;refine hK _ ?_;clear hK K) | (refine Qr.walk_plain rfl fun K hK => ?_;apply Qr.one_det;(focus (intro w' hw';have HK:=keep hkept hw';simp only [Kept,ka,kb,kc,kd,ke,kf,kg] at HK;go_simp;first | done | rfl));go_simp;refine hK _ ?_;clear hK K) | (refine Qr.walk_plain rfl fun K hK => ?_;apply Qr.one_call;(focus (intro w' hw';go_simp;first | done | exact ⟨rfl,rfl⟩));(focus (intro w' hw'; go_at_call 143;refine (s_set_any _ _ _ _ _ _).mono ?_;rintro _ w2 ⟨rfl,hb1⟩ ;exact ⟨_,rfl,by constructor <;> assumption,below_step hw' (by assumption),by assumption⟩));intro v hv;cases hv;go_simp;refine hK _ ?_;clear hK K))
   refine Qr.walk_nil fun w7 hw7 hmade => ?_
   obtain ⟨g3,hg3,hgw,hgc⟩:=hmade _ rfl
   injection hg3 with hg3
   injection hg3 with hg3
   subst hg3
   clear hmade
   obtain ⟨⟨p0,p1,p2,p3,p4,p5⟩,q0,q1,q2,q3,q4,q5⟩:=cells6 hgc
   go_upto_region 11 with fail
   obtain ⟨h6,hb6⟩:=set6 hgc (Nat.le_refl g) (F1 (setX a (ax:Int) r)) (F1 (setY b (ax:Int) r)) (F1 (setZ c (ax:Int) r)) (F1 d) (F1 e) (F1 f)
   clear p0 p1 p2 p3 p4 p5 q0 q1 q2 q3 q4 q5 hgc
   generalize (((((w7.setCell ⟨g,0,none⟩ (F1 (setX a (ax:Int) r))).setCell ⟨g,1,none⟩ (F1 (setY b (ax:Int) r))).setCell ⟨g,2,none⟩ (F1 (setZ c (ax:Int) r))).setCell ⟨g,3,none⟩ (F1 d)).setCell ⟨g,4,none⟩ (F1 e)).setCell ⟨g,5,none⟩ (F1 f) = w8 at *
   have hw8:=hw7.trans (hb6.mono hgw)
   clear hw7 hb6
   have hkept:=kept_app (keep hkept hw8) (kept6 h6)
   have W8b:=below_step W6b hw8
   have hg2:w.heap.size + 2 < g:=by omega
   have hsw8:g < w8.heap.size:=(Array.getElem?_eq_some_iff.1 h6).1
   clear h6 hgw hw8
   generalize g = g2 at *
   have hK:=hkept;simp only [Kept,ka,kb,kc,kd,ke,kf,kg] at hK
   have m1:g1 ≠ w.heap.size + 1:=by omega
   have m2:g1 ≠ w.heap.size + 1 + 1:=by omega
   have m3:g2 ≠ w.heap.size + 1:=by omega
   have m4:g2 ≠ w.heap.size + 1 + 1:=by omega
   have m1':=Ne.symm m1
   have m2':=Ne.symm m2
   have m3':=Ne.symm m3
   have m4':=Ne.symm m4
   go_region
   rename_i aK
   refine aK _ _ ?_
   go_upto_region 99 with fail
   have e1:cnB a b c (setX d (ax:Int) r) (setY e (ax:Int) r) (setZ f (ax:Int) r) = (splitP halfS bB).1:=by
    rw [hm0.out,← hm,hB.out]
    show _ = (_,setCo (cn .f32 d,cn .f32 e,cn .f32 f) ax (cn .f32 r))
    rw [← set_pick]
    rfl
   have e2:cnB (setX a (ax:Int) r) (setY b (ax:Int) r) (setZ c (ax:Int) r) d e f = (splitP halfS bB).2:=by
    rw [hm0.out,← hm,hB.out]
    show _ = (setCo (cn .f32 a,cn .f32 b,cn .f32 c) ax (cn .f32 r),_)
    rw [← set_pick]
    rfl
   exact bodyPost_ret (v:=.tuple #[BoxV a b c (setX d (ax:Int) r) (setY e (ax:Int) r) (setZ f (ax:Int) r),BoxV (setX a (ax:Int) r) (setY b (ax:Int) r) (setZ c (ax:Int) r) d e f]) (by simp [results,Tryz.results73,go_sem,hK,World.cell?_setCell_other,World.cell?_setCell_same'];first | done | (rfl;done) | (repeat' constructor)) rfl ⟨_,_,_,_,_,_,_,_,_,_,_,_,rfl,e1,e2,(bel6 (bel6 W8b (by omega) ..) (by omega) ..).drew⟩
end Go.Proofs.YtbiacfkiakddiaaGreat

namespace Go.Proofs.YtbiacfkiakddiaaGreat
open Go.RowKit Go.Fl Go.Ft Ieee
theorem read_two:single.read 1073741824 = .number false 8388608 (-22):=by decide +kernel
theorem read_half:single.read 1056964608 = .number false 8388608 (-24):=by decide +kernel

theorem quo_n (n m:Nat) (s:Bool) (i:Int) (hn:n = 2 ^ 23) (hp:n ≠ 0) (hl:n.log2 = 23) (h0:m ≠ 0) (hm:m.log2 < 24) :
  ((Datum.number s m i).quotient 25 (.number false n (-22))).map single.write = some (single.nearest (s ^^ false) m (i - 1)):=by
 rw [quot_eq _ _ _ hp,hl]
 obtain ⟨k,hk⟩:∃ k,25 + 23 - m.log2 = k:=⟨_,rfl⟩
 simp only [hk,Option.map_some]
 have e1:m <<< k = m * 2 ^ (k - 23) * n:=by
  rw [Nat.shiftLeft_eq,Nat.mul_assoc,hn,← Nat.pow_add,show k - 23 + 23 = k by omega]
 rw [e1,Nat.mul_div_cancel _ (Nat.pos_of_ne_zero hp),Nat.mul_mod_left]
 have e2:2 * (m * 2 ^ (k - 23)) + ((0:Nat) != 0).toNat = m * 2 ^ (k - 22):=by
  rw [show k - 22 = k - 23 + 1 by omega,Nat.pow_succ,show ((0:Nat) != 0).toNat = 0 from rfl,Nat.add_zero,Nat.mul_comm 2,Nat.mul_assoc]
 rw [e2,Format.write,show i - -22 - (k:Int) - 1 = (i - 1) - ((k - 22:Nat):Int) by omega,nearest_shift _ _ h0]
theorem pro_n (n m:Nat) (s:Bool) (i:Int) (hn:n = 2 ^ 23) (h0:m ≠ 0) :
  ((Datum.number s m i).product (.number false n (-24))).map single.write = some (single.nearest (s ^^ false) m (i - 1)):=by
 rw [Datum.product,Option.map_some,Format.write,hn,show i + -24 = (i - 1) - ((23:Nat):Int) by omega,nearest_shift _ _ h0]
theorem zero_n (n:Nat) (s:Bool) (i:Int) (hp:n ≠ 0) :
  ((Datum.number s 0 i).quotient 25 (.number false n (-22))).map single.write = ((Datum.number s 0 i).product (.number false n (-24))).map single.write:=by
 rw [quot_eq _ _ _ hp,Datum.product]
 simp only [Option.map_some,Nat.zero_shiftLeft,Nat.zero_div,Nat.zero_mod,Nat.zero_mul]
 rw [Format.write,Format.write,Format.nearest,Format.nearest,if_pos rfl,if_pos (show 2 * 0 + ((0:Nat) != 0).toNat = 0 from rfl)]

theorem half_same (x:Nat):halfF x = halfS x:=by
 show (((single.read x).quotient 25 (single.read 1073741824)).map single.write).getD (nanw .f32) = (((single.read x).product (single.read 1056964608)).map single.write).getD (nanw .f32)
 rw [read_two,read_half]
 cases h:single.read x with
 | nan s t => rfl
 | infinity s => rfl
 | number s m i =>
  have b:=(read_single h).1
  have e23:8388608 = 2 ^ 23:=by decide +kernel
  have el:Nat.log2 8388608 = 23:=by decide +kernel
  have ep:8388608 ≠ 0:=by decide +kernel
  generalize 8388608 = n at e23 el ep ⊢
  congr 1
  by_cases h0:m = 0
  ·subst h0
   exact zero_n n s i ep
  ·rw [quo_n n m s i e23 ep el h0 ((Nat.log2_lt h0).2 (by clear el e23;omega)),pro_n n m s i e23 h0]

end Go.Proofs.YtbiacfkiakddiaaGreat

namespace Go.Proofs.YtbiacfkiakddiaaGreat
open Go.RowKit Go.Fl
theorem box_info:(Tryz.prog.info? 40).map (fun i => (i.zero,i.size,i.bytes)) = some (some (.agg #[F1 0,F1 0,F1 0,F1 0,F1 0,F1 0]),6,24):=by kernel_rfl

/-- The cells of a box,of boxes. -/
abbrev b6 (b:Bx):List Value:=[F1 b.1.1,F1 b.1.2.1,F1 b.1.2.2,F1 b.2.1,F1 b.2.2.1,F1 b.2.2.2]
def fb (bs:List Bx):List Value:=bs.flatMap b6
theorem fb_app (bs:List Bx) (b:Bx):fb (bs ++ [b]) = fb bs ++ b6 b:=by simp [fb]
theorem fb_app2 (bs:List Bx) (b c:Bx):fb (bs ++ [b,c]) = fb bs ++ (b6 b ++ b6 c):=by simp [fb]
theorem fb_cons (b:Bx) (bs:List Bx):fb (b :: bs) = F1 b.1.1 :: F1 b.1.2.1 :: F1 b.1.2.2 :: F1 b.2.1 :: F1 b.2.2.1 :: F1 b.2.2.2 :: fb bs:=rfl
theorem fb_get:∀ (bs:List Bx) (i:Nat) (h:i < bs.length),(fb bs)[i * 6]? = some (F1 bs[i].1.1) ∧ (fb bs)[i * 6 + 1]? = some (F1 bs[i].1.2.1) ∧ (fb bs)[i * 6 + 2]? = some (F1 bs[i].1.2.2) ∧ (fb bs)[i * 6 + 3]? = some (F1 bs[i].2.1) ∧ (fb bs)[i * 6 + 4]? = some (F1 bs[i].2.2.1) ∧ (fb bs)[i * 6 + 5]? = some (F1 bs[i].2.2.2)
 | b :: bs,0,_ => ⟨rfl,rfl,rfl,rfl,rfl,rfl⟩
 | b :: bs,i + 1,h => by
  have:=fb_get bs i (by simpa using h)
  rw [fb_cons,show (i + 1) * 6 = i * 6 + 1 + 1 + 1 + 1 + 1 + 1 by omega]
  simpa using this

/-- The cells of a box lie at a place. -/
def BoxAt (g p:Nat) (b:Bx) (w:World):Prop:=∀ j u,(b6 b)[j]? = some u → w.cell? ⟨g,p + j,none⟩ = some u
theorem b6_get {b:Bx} {j:Nat} {u:Value} (h:(b6 b)[j]? = some u):j < 6:=by
 have:=(List.getElem?_eq_some_iff.1 h).1
 simpa using this
theorem b6_one {b:Bx} {u:Value} (h:u ∈ b6 b):u.oneCell' = true:=by
 simp only [List.mem_cons,List.not_mem_nil,or_false] at h
 rcases h with rfl | rfl | rfl | rfl | rfl | rfl <;> rfl

/-- One box is appended. -/
theorem wp_appB {ops:Array Oper} {rest:List Oper} {o:Oper} {a:Act} {Q:Exit → Act → World → Prop} {W:World} (base:Nat) (hgd:o.guard = none) (s x:Operand)
  (ho:o.op = .call { callee:=.builtin .append,args:=#[s,x],argTypes:=#[47,47] })
  (v:Value) (m:Nat) (bs:List Bx) (hs:a.eval s = v) (hown:W.ownsRow base 40 6 v m (fb bs)) (gn c:Nat) (b:Bx) (hx:a.eval x = .slice (some ⟨gn,0,none⟩) 1 c) (hcell:BoxAt gn 0 b W)
  (hm:m ≤ 1000) (hbase:base ≤ W.heap.size)
  (h:∀ v' w',w'.ownsRow base 40 6 v' (m + 1) (fb (bs ++ [b])) → W.grownBy w' v.ownBlock → wpList Tryz.prog ops Q rest (a.put o.dst v') w'):wpList Tryz.prog ops Q (o :: rest) a W:=by
 obtain ⟨i0,hi,hz0,hz1,hz2⟩:=info_parts box_info
 refine wpList_append_own _ hgd s x 47 ho base 40 i0 (.agg #[F1 0,F1 0,F1 0,F1 0,F1 0,F1 0]) 6 24 Tryz.underlying47 hi hz0 hz1 hz2 rfl (by decide) v m (fb bs) hs hown ⟨gn,0,none⟩ 1 c (b6 b) hx rfl ?_ (fun u hu => b6_one hu) (by unfold maxLen;omega) (by omega) hbase ?_
 ·intro j u hu
  have:=hcell j u hu
  rw [show (⟨gn,0,none⟩:Addr).add j = ⟨gn,j,none⟩ by cases j <;> simp [Addr.add]];simpa using this
 ·intro v' w' h1 h2 _
  refine h v' w' ?_ h2
  rw [fb_app]
  exact h1

/-- Two boxes are appended. -/
theorem wp_appB2 {ops:Array Oper} {rest:List Oper} {o:Oper} {a:Act} {Q:Exit → Act → World → Prop} {W:World} (base:Nat) (hgd:o.guard = none) (s x:Operand)
  (ho:o.op = .call { callee:=.builtin .append,args:=#[s,x],argTypes:=#[47,47] })
  (v:Value) (m:Nat) (bs:List Bx) (hs:a.eval s = v) (hown:W.ownsRow base 40 6 v m (fb bs)) (gn c:Nat) (b b':Bx) (hx:a.eval x = .slice (some ⟨gn,0,none⟩) 2 c) (hcell:BoxAt gn 0 b W) (hcell':BoxAt gn 6 b' W)
  (hm:m ≤ 1000) (hbase:base ≤ W.heap.size)
  (h:∀ v' w',w'.ownsRow base 40 6 v' (m + 2) (fb (bs ++ [b,b'])) → W.grownBy w' v.ownBlock → wpList Tryz.prog ops Q rest (a.put o.dst v') w'):wpList Tryz.prog ops Q (o :: rest) a W:=by
 obtain ⟨i0,hi,hz0,hz1,hz2⟩:=info_parts box_info
 refine wpList_append_own _ hgd s x 47 ho base 40 i0 (.agg #[F1 0,F1 0,F1 0,F1 0,F1 0,F1 0]) 6 24 Tryz.underlying47 hi hz0 hz1 hz2 rfl (by decide) v m (fb bs) hs hown ⟨gn,0,none⟩ 2 c (b6 b ++ b6 b') hx rfl ?_ (fun u hu => by rcases List.mem_append.1 hu with hu | hu <;> exact b6_one hu) (by unfold maxLen;omega) (by omega) hbase ?_
 ·intro j u hu
  by_cases hj:j < 6
  ·rw [List.getElem?_append_left (by simpa using hj)] at hu
   have:=hcell j u hu
   rw [show (⟨gn,0,none⟩:Addr).add j = ⟨gn,j,none⟩ by cases j <;> simp [Addr.add]];simpa using this
  ·rw [List.getElem?_append_right (by simpa using hj)] at hu
   have:=hcell' (j - 6) u hu
   rw [show 6 + (j - 6) = j by omega] at this
   rw [show (⟨gn,0,none⟩:Addr).add j = ⟨gn,j,none⟩ by cases j <;> simp [Addr.add]];simpa using this
 ·intro v' w' h1 h2 _
  refine h v' w' ?_ h2
  rw [fb_app2]
  exact h1
end Go.Proofs.YtbiacfkiakddiaaGreat

namespace Go.Proofs.YtbiacfkiakddiaaGreat
open Go.RowKit Go.Fl
def cnb (b:Bx):Bx:=cnB b.1.1 b.1.2.1 b.1.2.2 b.2.1 b.2.2.1 b.2.2.2
/-- Boxes in memory. -/
def BxsIn (bs:List Bx) (g o:Nat) (w:World):Prop:=∀ i (h:i < bs.length),BoxAt g (o + i * 6) bs[i] w
theorem BoxAt.keep {g p:Nat} {b:Bx} {w w':World} (h:BoxAt g p b w) (hb:Below w.heap.size w w'):BoxAt g p b w':=fun j u hu => by
 rw [lift hb _ (by rw [h j u hu];rfl)];exact h j u hu
theorem BxsIn.keep {bs:List Bx} {g o:Nat} {w w':World} (h:BxsIn bs g o w) (hb:Below w.heap.size w w'):BxsIn bs g o w':=fun i hi => (h i hi).keep hb
/-- Whether a box and its halves are right;the halves of boxes. -/
def halfOk (half:Nat → Nat) (b:Bx):Bool:=boxOk b && (boxOk (splitP half b).1 && boxOk (splitP half b).2)
def halves (half:Nat → Nat) (bs:List Bx):List Bx:=bs.flatMap fun b => [(splitP half b).1,(splitP half b).2]
def RetBl (ok:Bool) (R:List Bx) (w:World) (e:Ending) (w':World):Prop :=
 ∃ v bs,e = .returned (.tuple #[v,.bool ok]) ∧ (ok = true → w'.ownsRow w.heap.size 40 6 v bs.length (fb bs) ∧ bs.map cnb = R) ∧ Below w.heap.size w w'

theorem box_new {W:World} {h:Nat} (hh:h = W.heap.size) (A:Array Value) (T:TypeId) (j:Nat) (u:Value) (hj:A[j]? = some u):(W.alloc (.cells A T)).cell? ⟨h,j,none⟩ = some u:=by
 subst hh
 simpa using hj

set_option maxRecDepth 100000 in
set_option maxHeartbeats 8000000 in
theorem splitall_any (bs:List Bx) (g o cap:Nat) (p:Option Addr) (w:World) (hp:bs ≠ [] → p = some ⟨g,o,none⟩) (hB:BxsIn bs g o w) (hl:bs.length ≤ 400) :
  Calls Tryz.prog 76 #[.slice p bs.length cap] w (RetBl (bs.all fun b => halfOk halfF (cnb b)) (halves halfF (bs.map cnb)) w):=by
 obtain ⟨ok,hOk⟩:∃ ok,Hid (ok = bs.all fun b => halfOk halfF (cnb b)):=⟨_,rfl⟩
 rw [← hOk.out]
 go_enter Tryz.func76,Tryz.ntmps76
 go_wp2_with fail
 have W0b:Below w.heap.size w (w.alloc (.cells #[] 40)):=(Below.refl _ _).alloc (Nat.le_refl _) _
 have hpos:(0:Int) ≤ (bs.length:Int):=by omega
 go_loopw [4,13] (fun v i wr => ∃ (m:Nat) (out:List Bx),m ≤ bs.length ∧ i = .int .i64 (m:Int) ∧ w.heap.size ≤ wr.heap.size ∧ wr.ownsRow w.heap.size 40 6 v out.length (fb out) ∧ out.length = 2 * m ∧ out.map cnb = halves halfF ((bs.take m).map cnb) ∧ ((bs.take m).all fun b => halfOk halfF (cnb b)) = true ∧ Below w.heap.size w wr) (fun _ i _ => bs.length - (intOf i).toNat)
 case atStart => exact ⟨0,[],by omega,rfl,by simp,World.ownsRow_lit w #[] 0 (Nat.le_refl _) (by unfold maxLen;omega) rfl,rfl,rfl,rfl,W0b⟩
 case round =>
  obtain ⟨m,out,hm,rfl,hsz,hown,hol,hom,hoa,Wb⟩:=hrel
  by_cases hlt:m < bs.length
  ·have hlt':(m:Int) < (bs.length:Int):=by omega
   have h0:(0:Int) ≤ (m:Int):=by omega
   have hpe:=hp (by intro h;rw [h] at hlt;simp at hlt)
   subst hpe
   have hb:=(hB.keep Wb) m hlt
   obtain ⟨⟨⟨a,b,c⟩,d,e,f⟩,hbx⟩:∃ x,x = bs[m]:=⟨_,rfl⟩
   rw [← hbx] at hb
   have c0:=hb 0 _ rfl
   have c1:=hb 1 _ rfl
   have c2:=hb 2 _ rfl
   have c3:=hb 3 _ rfl
   have c4:=hb 4 _ rfl
   have c5:=hb 5 _ rfl
   simp only [Nat.add_zero] at c0
   have hsp:∀ w',Calls Tryz.prog 144 #[BoxV a b c d e f] w' (RetSp (halfOk halfF (cnB a b c d e f)) (splitP halfF (cnB a b c d e f)) w'):=fun w' => split_any a b c d e f w'
   obtain ⟨okb,hokb⟩:∃ okb,Hid (okb = halfOk halfF (cnB a b c d e f)):=⟨_,rfl⟩
   obtain ⟨SS,hSS⟩:∃ SS,Hid (SS = splitP halfF (cnB a b c d e f)):=⟨_,rfl⟩
   rw [← hokb.out,← hSS.out] at hsp
   have hbc:Hid (cnb bs[m] = cnB a b c d e f):=by unfold Hid;rw [← hbx];rfl
   clear hb
   go_upto_region 5 with fail
   have Wb4:Below w.heap.size w (wr.alloc (.cells #[F1 a,F1 b,F1 c,F1 d,F1 e,F1 f] 40)):=Wb.alloc hsz _
   have hown4:(wr.alloc (.cells #[F1 a,F1 b,F1 c,F1 d,F1 e,F1 f] 40)).ownsRow w.heap.size 40 6 u4 out.length (fb out):=hown.alloc _
   have hp4:Kept [(⟨wr.heap.size,0,none⟩,F1 a),(⟨wr.heap.size,1,none⟩,F1 b),(⟨wr.heap.size,2,none⟩,F1 c),(⟨wr.heap.size,3,none⟩,F1 d),(⟨wr.heap.size,4,none⟩,F1 e),(⟨wr.heap.size,5,none⟩,F1 f)] [] (wr.alloc (.cells #[F1 a,F1 b,F1 c,F1 d,F1 e,F1 f] 40)):=by simp only [Kept,ka,kb,kc,kd,ke,kf,kg];simp
   clear Wb hown c0 c1 c2 c3 c4 c5
   generalize wr.alloc (.cells #[F1 a,F1 b,F1 c,F1 d,F1 e,F1 f] 40) = w4 at *
   have hkept:=hp4
   clear hp4
   have hK:=hkept;simp only [Kept,ka,kb,kc,kd,ke,kf,kg] at hK
   cases okb
   ·have hno:Hid (ok = false):=by
     unfold Hid
     rw [hOk.out,List.all_eq_false]
     exact ⟨bs[m],List.getElem_mem _,by rw [hbc.out,← hokb.out];simp⟩
    go_wp2_with (go_at_call 144;refine (hsp _).mono ?_;rintro _ w5 ⟨a1,b1,c1,d1,e1,f1,a2,b2,c2,d2,e2,f2,rfl,hs,hb1⟩;have Wb5:=below_step Wb4 hb1)
    exact bodyPost_ret (v:=.tuple #[.slice none 0 0,.bool false]) (by simp [results,Tryz.results76,go_sem];first | done | (rfl;done) | (repeat' constructor)) rfl ⟨_,[],by rw [hno.out],fun h => (by rw [hno.out] at h;cases h),(Wb5.alloc Wb5.size _).alloc (Nat.le_trans Wb5.size (by simp)) _⟩
   ·go_wp2_with (first
     | (go_at_call 144;refine (hsp _).mono ?_;rintro _ w5 ⟨a1,b1,c1,d1,e1,f1,a2,b2,c2,d2,e2,f2,rfl,hs,hb1⟩;have Wb5:=below_step Wb4 hb1;have hown5:=owns_below hown4 hb1)
     | (at_builtin;refine wp_appB2 w.heap.size rfl (.tmp 25) (.tmp 28) rfl _ _ out rfl (((hown5.alloc _).alloc _).alloc _) (w5.heap.size + 1 + 1) 2 ((a1,b1,c1),d1,e1,f1) ((a2,b2,c2),d2,e2,f2) (by first | rfl | simp) ?_ ?_ (by omega) (by have:=Wb5.size;simp;omega) ?_;rotate_left 2;intro v5 w6 hown6 hg6))
    rotate_left
    ·intro j u hu
     have hj:=b6_get hu
     rcases (show j = 0 ∨ j = 1 ∨ j = 2 ∨ j = 3 ∨ j = 4 ∨ j = 5 by omega) with rfl | rfl | rfl | rfl | rfl | rfl <;> (injection hu with hu;subst hu;exact box_new (by simp) _ _ _ _ rfl)
    ·intro j u hu
     have hj:=b6_get hu
     rcases (show j = 0 ∨ j = 1 ∨ j = 2 ∨ j = 3 ∨ j = 4 ∨ j = 5 by omega) with rfl | rfl | rfl | rfl | rfl | rfl <;> (injection hu with hu;subst hu;exact box_new (by simp) _ _ _ _ rfl)
    have ht:bs.take (m + 1) = bs.take m ++ [bs[m]]:=(List.take_append_getElem hlt).symm
    have hz1:w.heap.size ≤ (w5.alloc (.cells #[F1 a1,F1 b1,F1 c1,F1 d1,F1 e1,F1 f1] 40)).heap.size:=Nat.le_trans Wb5.size (by simp)
    have hz2:w.heap.size ≤ ((w5.alloc (.cells #[F1 a1,F1 b1,F1 c1,F1 d1,F1 e1,F1 f1] 40)).alloc (.cells #[F1 a2,F1 b2,F1 c2,F1 d2,F1 e2,F1 f2] 40)).heap.size:=Nat.le_trans hz1 (by simp)
    refine ⟨⟨m + 1,out ++ [((a1,b1,c1),d1,e1,f1),((a2,b2,c2),d2,e2,f2)],by omega,by simp,Nat.le_trans hz2 (by have:=hg6.size;simp at this ⊢;omega),by simpa using hown6,by simp;omega,?_,?_,grown_below (((Wb5.alloc Wb5.size _).alloc hz1 _).alloc hz2 _) (((hown5.alloc _).alloc _).alloc _) hg6 (Nat.le_refl _)⟩,by simp [intOf];omega⟩
    ·rw [List.map_append,hom,ht,List.map_append]
     unfold halves
     rw [List.flatMap_append]
     congr 1
     simp only [List.map_cons,List.map_nil,List.flatMap_cons,List.flatMap_nil,List.append_nil]
     rw [hbc.out,← hSS.out,← (hs trivial).1,← (hs trivial).2]
     rfl
    ·rw [ht,List.all_append,hoa]
     simp only [List.all_cons,List.all_nil]
     rw [hbc.out,← hokb.out]
     rfl
  ·obtain rfl:m = bs.length:=by omega
   have hyes:Hid (ok = true):=by unfold Hid;rw [hOk.out,← hoa,List.take_of_length_le (Nat.le_refl _)]
   have hom2:out.map cnb = halves halfF (bs.map cnb):=by rw [hom,List.take_of_length_le (Nat.le_refl _)]
   go_wp2_with fail
   exact bodyPost_ret (v:=.tuple #[u4,.bool true]) (by simp [results,Tryz.results76,go_sem];first | done | (rfl;done) | (repeat' constructor)) rfl ⟨u4,out,by rw [hyes.out],fun _ => ⟨hown,hom2⟩,Wb⟩
end Go.Proofs.YtbiacfkiakddiaaGreat

namespace Go.Proofs.YtbiacfkiakddiaaGreat
open Go.RowKit Go.Fl
theorem step_appB {ops:Array Oper} {o:Oper} {a:Act} {W:World} {K:Act → World → Prop} {Q:Exit → Act → World → Prop} {E:Prop} (base:Nat) (hgd:o.guard = none) (s x:Operand)
  (ho:o.op = .call { callee:=.builtin .append,args:=#[s,x],argTypes:=#[47,47] })
  (v:Value) (m:Nat) (bs:List Bx) (hs:a.eval s = v) (hown:W.ownsRow base 40 6 v m (fb bs)) (gn c:Nat) (b:Bx) (hx:a.eval x = .slice (some ⟨gn,0,none⟩) 1 c) (hcell:BoxAt gn 0 b W)
  (hm:m ≤ 1000) (hbase:base ≤ W.heap.size)
  (h:∀ v' w',w'.ownsRow base 40 6 v' (m + 1) (fb (bs ++ [b])) → W.grownBy w' v.ownBlock → (v'.ownBlock = v.ownBlock ∨ v'.ownBlock = some W.heap.size) → K (a.put o.dst v') w') :
  if Region.wanted o (yielded ops a.tmps) = true then Oper.wp Tryz.prog o a W K Q else E:=by
 have hw:Region.wanted o (yielded ops a.tmps) = true:=by simp [Region.wanted,hgd]
 rw [if_pos hw]
 obtain ⟨i0,hi,hz0,hz1,hz2⟩:=info_parts box_info
 obtain ⟨v',w',hr,h2,h3,h4,h5⟩:=run_append_own_at (P:=Tryz.prog) W base 47 o.type 40 i0 (.agg #[F1 0,F1 0,F1 0,F1 0,F1 0,F1 0]) 6 24 Tryz.underlying47 hi hz0 hz1 hz2 rfl (by decide) v m (fb bs) hown ⟨gn,0,none⟩ 1 c (b6 b) rfl
  (fun j u hu => by have:=hcell j u hu;rw [show (⟨gn,0,none⟩:Addr).add j = ⟨gn,j,none⟩ by cases j <;> simp [Addr.add]];simpa using this) (fun u hu => b6_one hu) (by unfold maxLen;omega) (by omega) hbase
 unfold Oper.wp execOp
 simp only [ho,resolve,invoke,builtin,Sem.run_bind,Sem.run_pure,Result.andThen_ok,List.map_toArray,List.map_cons,List.map_nil,hs,hx,hr]
 exact h v' w' (by rw [fb_app];exact h2) h3 h5

theorem grown_cell {W w':World} {row:Option Nat} (h:W.grownBy w' row) {p:Addr} {v:Value} (hp:W.cell? p = some v) (hne:row ≠ some p.block):w'.cell? p = some v:=by
 have hlt:p.block < W.heap.size:=some_lt (by rw [hp];rfl)
 have:=h.block p.block hlt (by intro e;exact hne e.symm)
 unfold World.cell? at hp ⊢
 rw [this]
 exact hp
theorem BoxAt.grown {W w':World} {row:Option Nat} (h:W.grownBy w' row) {g p:Nat} {b:Bx} (hp:BoxAt g p b W) (hne:row ≠ some g):BoxAt g p b w':=fun j u hu => grown_cell h (hp j u hu) hne
theorem box_at {W:World} {h:Nat} (hh:h = W.heap.size) (b:Bx) (T:TypeId):BoxAt h 0 b (W.alloc (.cells #[F1 b.1.1,F1 b.1.2.1,F1 b.1.2.2,F1 b.2.1,F1 b.2.2.1,F1 b.2.2.2] T)):=by
 intro j u hu
 have hj:=b6_get hu
 rcases (show j = 0 ∨ j = 1 ∨ j = 2 ∨ j = 3 ∨ j = 4 ∨ j = 5 by omega) with rfl | rfl | rfl | rfl | rfl | rfl <;> (injection hu with hu;subst hu;exact box_new hh _ _ _ _ rfl)
theorem BoxAt.lay {W:World} {g p:Nat} {b:Bx} (h:BoxAt g p b W) (o:Obj):BoxAt g p b (W.alloc o):=h.keep ((Below.refl _ _).alloc (Nat.le_refl _) _)
theorem row_own {w:World} {lo lo':Nat} {e:TypeId} {size n:Nat} {v:Value} {xs:List Value} (h:w.ownsRow lo e size v n xs) (hl:w.heap.size ≤ lo'):∀ g,lo' ≤ g → v.ownBlock ≠ some g:=by
 intro g hg e
 have:=(h.lt g e).2
 omega
theorem kept_grown {cs:List (Addr × Value)} {W w':World} {row:Option Nat} {L:Nat} (h:Kept cs [] W) (hg:W.grownBy w' row) (hne:∀ g,L ≤ g → row ≠ some g) (hL:∀ p ∈ cs,L ≤ p.1.block):Kept cs [] w' :=
 ⟨fun p hp => grown_cell hg (h.1 p hp) (hne _ (hL p hp)),fun x hx => absurd hx (by simp)⟩
theorem own_drew {w:World} {lo:Nat} {e:TypeId} {size n:Nat} {v:Value} {xs:List Value} (h:w.ownsRow lo e size v n xs):w.drew.ownsRow lo e size v n xs:=h
theorem box_drew {g p:Nat} {b:Bx} {w:World} (h:BoxAt g p b w):BoxAt g p b w.drew:=h
theorem size_drew (w:World):w.drew.heap.size = w.heap.size:=rfl
end Go.Proofs.YtbiacfkiakddiaaGreat
