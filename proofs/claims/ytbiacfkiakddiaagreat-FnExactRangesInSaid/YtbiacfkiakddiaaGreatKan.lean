/-
 Lemmas: W2,Wi.
-/
import Derived.Test.YtbiacfkiakddiaaGreatKak
import Derived.Test.YtbiacfkiakddiaaGreatKam
set_option linter.unusedVariables false
set_option linter.unusedSimpArgs false
namespace Go.Proofs.YtbiacfkiakddiaaGreat
open Go.RowKit Go.Fl
set_option maxRecDepth 100000 in
set_option maxHeartbeats 1000000 in
theorem leaf_ball (b o bv ov cap r0 x y z:Nat) (w:World) (hk:w.cell? ⟨b,o,none⟩ = some (.int .i64 0))
  (hs:w.cell? ⟨b,o + 3,none⟩ = some (.slice (some ⟨bv,ov,none⟩) 1 cap)) (h0:w.cell? ⟨bv,ov,none⟩ = some (.float .f32 r0)) :
  Calls Tryz.prog 217 #[.pointer (some ⟨b,o,none⟩),V3 x y z] w (Ret .f32 (ballF (cn .f32 x) (cn .f32 y) (cn .f32 z) (cn .f32 r0)) w):=by
 have hb:b < w.heap.size:=some_lt (a:=⟨b,o,none⟩) (by rw [hk];rfl)
 have hbv:bv < w.heap.size:=some_lt (a:=⟨bv,ov,none⟩) (by rw [h0];rfl)
 go_enter Tryz.func217,Tryz.ntmps217
 go_wp2_with fail
 refine Qr.wp_below 6 (by kernel_rfl) (by kernel_rfl) PhiF ?_
 repeat (first | (refine Qr.walk_plain rfl fun K hK => ?_;refine one_bin _ _ _ _ _ rfl _ _ _ rfl rfl rfl (fun r hr => ?_);go_simp;refine hK _ ?_;clear hK K) | (refine Qr.walk_plain rfl fun K hK => ?_;apply Qr.one_det;(focus (intro w' hw';have HL:=lift hw';go_simp;first | done | rfl));go_simp;refine hK _ ?_;clear hK K) | (refine Qr.walk_plain rfl fun K hK => ?_;apply Qr.one_call;(focus (intro w' hw';go_simp;first | done | exact ⟨rfl,rfl⟩));(focus (intro w' hw'; go_at_call 250;refine (long_any _ _ _ _).mono ?_;rintro _ w2 ⟨r1,rfl,hr1,hb1⟩ ;exact ⟨_,rfl,by constructor <;> assumption,below_step hw' (by assumption),by assumption⟩));intro v hv;cases hv;go_simp;refine hK _ ?_;clear hK K) | (refine Qr.walk_plain rfl fun K hK => ?_;apply Qr.one_call;(focus (intro w' hw';go_simp;first | done | exact ⟨rfl,rfl⟩));(focus (intro w' hw'; go_at_call 176;refine (inner_any _ _ _ _ _ _ _).mono ?_;rintro _ w2 ⟨r1,rfl,hr1,hb1⟩ ;exact ⟨_,rfl,by constructor <;> assumption,below_step hw' (by assumption),by assumption⟩));intro v hv;cases hv;go_simp;refine hK _ ?_;clear hK K) | (refine Qr.walk_plain rfl fun K hK => ?_;apply Qr.one_call;(focus (intro w' hw';go_simp;first | done | exact ⟨rfl,rfl⟩));(focus (intro w' hw'; go_at_call 90;refine (size_any _ _).mono ?_;rintro _ w2 ⟨r1,rfl,hr1,hb1⟩ ;exact ⟨_,rfl,by constructor <;> assumption,below_step hw' (by assumption),by assumption⟩));intro v hv;cases hv;go_simp;refine hK _ ?_;clear hK K) | (refine Qr.walk_plain rfl fun K hK => ?_;apply Qr.one_call;(focus (intro w' hw';go_simp;first | done | exact ⟨rfl,rfl⟩));(focus (intro w' hw'; go_at_call 221;refine (lesser_any _ _ _).mono ?_;rintro _ w2 ⟨r1,rfl,hr1,hb1⟩ ;exact ⟨_,rfl,by constructor <;> assumption,below_step hw' (by assumption),by assumption⟩));intro v hv;cases hv;go_simp;refine hK _ ?_;clear hK K) | (refine Qr.walk_plain rfl fun K hK => ?_;apply Qr.one_call;(focus (intro w' hw';go_simp;first | done | exact ⟨rfl,rfl⟩));(focus (intro w' hw'; go_at_call 222;refine (greater_any _ _ _).mono ?_;rintro _ w2 ⟨r1,rfl,hr1,hb1⟩ ;exact ⟨_,rfl,by constructor <;> assumption,below_step hw' (by assumption),by assumption⟩));intro v hv;cases hv;go_simp;refine hK _ ?_;clear hK K) | (refine Qr.walk_plain rfl fun K hK => ?_;apply Qr.one_call;(focus (intro w' hw';go_simp;first | done | exact ⟨rfl,rfl⟩));(focus (intro w' hw'; go_at_call 219;refine (short_any _ _ _).mono ?_;rintro _ w2 ⟨r1,rfl,hr1,hb1⟩ ;exact ⟨_,rfl,by constructor <;> assumption,below_step hw' (by assumption),by assumption⟩));intro v hv;cases hv;go_simp;refine hK _ ?_;clear hK K) | (refine Qr.walk_plain rfl fun K hK => ?_;apply Qr.one_call;(focus (intro w' hw';go_simp;first | done | exact ⟨rfl,rfl⟩));(focus (intro w' hw'; go_at_call 224;refine (bulge_any _ _ _).mono ?_;rintro _ w2 ⟨r1,rfl,hr1,hb1⟩ ;exact ⟨_,rfl,by constructor <;> assumption,below_step hw' (by assumption),by assumption⟩));intro v hv;cases hv;go_simp;refine hK _ ?_;clear hK K) | (refine Qr.walk_plain rfl fun K hK => ?_;apply Qr.one_call;(focus (intro w' hw';go_simp;first | done | exact ⟨rfl,rfl⟩));(focus (intro w' hw'; go_at_call 262;refine (fold_any _ _ _).mono ?_;rintro _ w2 ⟨r1,rfl,hr1,hb1⟩ ;exact ⟨_,rfl,by constructor <;> assumption,below_step hw' (by assumption),by assumption⟩));intro v hv;cases hv;go_simp;refine hK _ ?_;clear hK K) | (refine Qr.walk_plain rfl fun K hK => ?_;apply Qr.one_call;(focus (intro w' hw';go_simp;first | done | exact ⟨rfl,rfl⟩));(focus (intro w' hw'; go_at_call 211;refine (sine_any _ _).mono ?_;rintro _ w2 ⟨r1,rfl,hr1,hb1⟩ ;exact ⟨_,rfl,by constructor <;> assumption,below_step hw' (by assumption),by assumption⟩));intro v hv;cases hv;go_simp;refine hK _ ?_;clear hK K) | (refine Qr.walk_plain rfl fun K hK => ?_;apply Qr.one_call;(focus (intro w' hw';go_simp;first | done | exact ⟨rfl,rfl⟩));(focus (intro w' hw'; go_at_call 133;refine (coords_any _ _ _ _).mono ?_;rintro _ w2 ⟨rfl,hb1⟩ ;exact ⟨_,rfl,by constructor <;> assumption,below_step hw' (by assumption),by assumption⟩));intro v hv;cases hv;go_simp;refine hK _ ?_;clear hK K) | (refine Qr.walk_plain rfl fun K hK => ?_;apply Qr.one_call;(focus (intro w' hw';go_simp;first | done | exact ⟨rfl,rfl⟩));(focus (intro w' hw'; go_at_call 227;refine (vector_any _ _ _ _).mono ?_;rintro _ w2 ⟨rfl,hb1⟩ ;exact ⟨_,rfl,by constructor <;> assumption,below_step hw' (by assumption),by assumption⟩));intro v hv;cases hv;go_simp;refine hK _ ?_;clear hK K) | (refine Qr.walk_plain rfl fun K hK => ?_;apply Qr.one_call;(focus (intro w' hw';go_simp;first | done | exact ⟨rfl,rfl⟩));(focus (intro w' hw'; go_at_call 178;refine (less_any _ _ _ _ _ _ _).mono ?_;rintro _ w2 ⟨x1,y1,z1,rfl,hx1,hy1,hz1,hb1⟩ ;exact ⟨_,rfl,by constructor <;> assumption,below_step hw' (by assumption),by assumption⟩));intro v hv;cases hv;go_simp;refine hK _ ?_;clear hK K))
 refine Qr.walk_nil fun w3 hw3 => ?_
 go_wp2_with fail
 go_ret
 exact ⟨_,rfl,by simp only [ballF,cn_zero, *],(by repeat' (first | exact Below.refl _ _ | exact Nat.le_refl _ | refine below_drewN ?_ _ | refine Below.alloc ?_ (by first | (simp;done) | (simp;omega)) _ | refine Below.setCell ?_ (by first | (simp;done) | (simp;omega)) _ | refine below_step ?_ (by assumption)))⟩

set_option maxRecDepth 100000 in
set_option maxHeartbeats 1000000 in
theorem leaf_box (b o bv ov cap r0 r1 r2 x y z:Nat) (w:World) (hk:w.cell? ⟨b,o,none⟩ = some (.int .i64 1))
  (hs:w.cell? ⟨b,o + 3,none⟩ = some (.slice (some ⟨bv,ov,none⟩) 3 cap)) (h0:w.cell? ⟨bv,ov,none⟩ = some (.float .f32 r0)) (h1:w.cell? ⟨bv,ov + 1,none⟩ = some (.float .f32 r1)) (h2:w.cell? ⟨bv,ov + 2,none⟩ = some (.float .f32 r2)) :
  Calls Tryz.prog 217 #[.pointer (some ⟨b,o,none⟩),V3 x y z] w (Ret .f32 (boxF (cn .f32 x) (cn .f32 y) (cn .f32 z) (cn .f32 r0) (cn .f32 r1) (cn .f32 r2)) w):=by
 have hb:b < w.heap.size:=some_lt (a:=⟨b,o,none⟩) (by rw [hk];rfl)
 have hbv:bv < w.heap.size:=some_lt (a:=⟨bv,ov,none⟩) (by rw [h0];rfl)
 go_enter Tryz.func217,Tryz.ntmps217
 go_wp2_with fail
 refine Qr.wp_below_all (by kernel_rfl) (by kernel_rfl) PhiF ?_
 repeat (first | (refine Qr.walk_plain rfl fun K hK => ?_;refine one_bin _ _ _ _ _ rfl _ _ _ rfl rfl rfl (fun r hr => ?_);go_simp;refine hK _ ?_;clear hK K) | (refine Qr.walk_plain rfl fun K hK => ?_;apply Qr.one_det;(focus (intro w' hw';have HL:=lift hw';go_simp;first | done | rfl));go_simp;refine hK _ ?_;clear hK K) | (refine Qr.walk_plain rfl fun K hK => ?_;apply Qr.one_call;(focus (intro w' hw';go_simp;first | done | exact ⟨rfl,rfl⟩));(focus (intro w' hw'; go_at_call 250;refine (long_any _ _ _ _).mono ?_;rintro _ w2 ⟨r1,rfl,hr1,hb1⟩ ;exact ⟨_,rfl,by constructor <;> assumption,below_step hw' (by assumption),by assumption⟩));intro v hv;cases hv;go_simp;refine hK _ ?_;clear hK K) | (refine Qr.walk_plain rfl fun K hK => ?_;apply Qr.one_call;(focus (intro w' hw';go_simp;first | done | exact ⟨rfl,rfl⟩));(focus (intro w' hw'; go_at_call 176;refine (inner_any _ _ _ _ _ _ _).mono ?_;rintro _ w2 ⟨r1,rfl,hr1,hb1⟩ ;exact ⟨_,rfl,by constructor <;> assumption,below_step hw' (by assumption),by assumption⟩));intro v hv;cases hv;go_simp;refine hK _ ?_;clear hK K) | (refine Qr.walk_plain rfl fun K hK => ?_;apply Qr.one_call;(focus (intro w' hw';go_simp;first | done | exact ⟨rfl,rfl⟩));(focus (intro w' hw'; go_at_call 90;refine (size_any _ _).mono ?_;rintro _ w2 ⟨r1,rfl,hr1,hb1⟩ ;exact ⟨_,rfl,by constructor <;> assumption,below_step hw' (by assumption),by assumption⟩));intro v hv;cases hv;go_simp;refine hK _ ?_;clear hK K) | (refine Qr.walk_plain rfl fun K hK => ?_;apply Qr.one_call;(focus (intro w' hw';go_simp;first | done | exact ⟨rfl,rfl⟩));(focus (intro w' hw'; go_at_call 221;refine (lesser_any _ _ _).mono ?_;rintro _ w2 ⟨r1,rfl,hr1,hb1⟩ ;exact ⟨_,rfl,by constructor <;> assumption,below_step hw' (by assumption),by assumption⟩));intro v hv;cases hv;go_simp;refine hK _ ?_;clear hK K) | (refine Qr.walk_plain rfl fun K hK => ?_;apply Qr.one_call;(focus (intro w' hw';go_simp;first | done | exact ⟨rfl,rfl⟩));(focus (intro w' hw'; go_at_call 222;refine (greater_any _ _ _).mono ?_;rintro _ w2 ⟨r1,rfl,hr1,hb1⟩ ;exact ⟨_,rfl,by constructor <;> assumption,below_step hw' (by assumption),by assumption⟩));intro v hv;cases hv;go_simp;refine hK _ ?_;clear hK K) | (refine Qr.walk_plain rfl fun K hK => ?_;apply Qr.one_call;(focus (intro w' hw';go_simp;first | done | exact ⟨rfl,rfl⟩));(focus (intro w' hw'; go_at_call 219;refine (short_any _ _ _).mono ?_;rintro _ w2 ⟨r1,rfl,hr1,hb1⟩ ;exact ⟨_,rfl,by constructor <;> assumption,below_step hw' (by assumption),by assumption⟩));intro v hv;cases hv;go_simp;refine hK _ ?_;clear hK K) | (refine Qr.walk_plain rfl fun K hK => ?_;apply Qr.one_call;(focus (intro w' hw';go_simp;first | done | exact ⟨rfl,rfl⟩));(focus (intro w' hw'; go_at_call 224;refine (bulge_any _ _ _).mono ?_;rintro _ w2 ⟨r1,rfl,hr1,hb1⟩ ;exact ⟨_,rfl,by constructor <;> assumption,below_step hw' (by assumption),by assumption⟩));intro v hv;cases hv;go_simp;refine hK _ ?_;clear hK K) | (refine Qr.walk_plain rfl fun K hK => ?_;apply Qr.one_call;(focus (intro w' hw';go_simp;first | done | exact ⟨rfl,rfl⟩));(focus (intro w' hw'; go_at_call 262;refine (fold_any _ _ _).mono ?_;rintro _ w2 ⟨r1,rfl,hr1,hb1⟩ ;exact ⟨_,rfl,by constructor <;> assumption,below_step hw' (by assumption),by assumption⟩));intro v hv;cases hv;go_simp;refine hK _ ?_;clear hK K) | (refine Qr.walk_plain rfl fun K hK => ?_;apply Qr.one_call;(focus (intro w' hw';go_simp;first | done | exact ⟨rfl,rfl⟩));(focus (intro w' hw'; go_at_call 211;refine (sine_any _ _).mono ?_;rintro _ w2 ⟨r1,rfl,hr1,hb1⟩ ;exact ⟨_,rfl,by constructor <;> assumption,below_step hw' (by assumption),by assumption⟩));intro v hv;cases hv;go_simp;refine hK _ ?_;clear hK K) | (refine Qr.walk_plain rfl fun K hK => ?_;apply Qr.one_call;(focus (intro w' hw';go_simp;first | done | exact ⟨rfl,rfl⟩));(focus (intro w' hw'; go_at_call 133;refine (coords_any _ _ _ _).mono ?_;rintro _ w2 ⟨rfl,hb1⟩ ;exact ⟨_,rfl,by constructor <;> assumption,below_step hw' (by assumption),by assumption⟩));intro v hv;cases hv;go_simp;refine hK _ ?_;clear hK K) | (refine Qr.walk_plain rfl fun K hK => ?_;apply Qr.one_call;(focus (intro w' hw';go_simp;first | done | exact ⟨rfl,rfl⟩));(focus (intro w' hw'; go_at_call 227;refine (vector_any _ _ _ _).mono ?_;rintro _ w2 ⟨rfl,hb1⟩ ;exact ⟨_,rfl,by constructor <;> assumption,below_step hw' (by assumption),by assumption⟩));intro v hv;cases hv;go_simp;refine hK _ ?_;clear hK K) | (refine Qr.walk_plain rfl fun K hK => ?_;apply Qr.one_call;(focus (intro w' hw';go_simp;first | done | exact ⟨rfl,rfl⟩));(focus (intro w' hw'; go_at_call 178;refine (less_any _ _ _ _ _ _ _).mono ?_;rintro _ w2 ⟨x1,y1,z1,rfl,hx1,hy1,hz1,hb1⟩ ;exact ⟨_,rfl,by constructor <;> assumption,below_step hw' (by assumption),by assumption⟩));intro v hv;cases hv;go_simp;refine hK _ ?_;clear hK K))
 refine Qr.walk_nil fun w3 hw3 => ?_
 go_wp2_with (first | (go_at_call 250;refine (long_any _ _ _ _).mono ?_;rintro _ w2 ⟨r1,rfl,hr1,hb1⟩;have HL:=lift hb1;have HF:=liftF hb1) | (go_at_call 176;refine (inner_any _ _ _ _ _ _ _).mono ?_;rintro _ w2 ⟨r1,rfl,hr1,hb1⟩;have HL:=lift hb1;have HF:=liftF hb1) | (go_at_call 90;refine (size_any _ _).mono ?_;rintro _ w2 ⟨r1,rfl,hr1,hb1⟩;have HL:=lift hb1;have HF:=liftF hb1) | (go_at_call 221;refine (lesser_any _ _ _).mono ?_;rintro _ w2 ⟨r1,rfl,hr1,hb1⟩;have HL:=lift hb1;have HF:=liftF hb1) | (go_at_call 222;refine (greater_any _ _ _).mono ?_;rintro _ w2 ⟨r1,rfl,hr1,hb1⟩;have HL:=lift hb1;have HF:=liftF hb1) | (go_at_call 219;refine (short_any _ _ _).mono ?_;rintro _ w2 ⟨r1,rfl,hr1,hb1⟩;have HL:=lift hb1;have HF:=liftF hb1) | (go_at_call 224;refine (bulge_any _ _ _).mono ?_;rintro _ w2 ⟨r1,rfl,hr1,hb1⟩;have HL:=lift hb1;have HF:=liftF hb1) | (go_at_call 262;refine (fold_any _ _ _).mono ?_;rintro _ w2 ⟨r1,rfl,hr1,hb1⟩;have HL:=lift hb1;have HF:=liftF hb1) | (go_at_call 211;refine (sine_any _ _).mono ?_;rintro _ w2 ⟨r1,rfl,hr1,hb1⟩;have HL:=lift hb1;have HF:=liftF hb1) | (go_at_call 133;refine (coords_any _ _ _ _).mono ?_;rintro _ w2 ⟨rfl,hb1⟩;have HL:=lift hb1;have HF:=liftF hb1) | (go_at_call 227;refine (vector_any _ _ _ _).mono ?_;rintro _ w2 ⟨rfl,hb1⟩;have HL:=lift hb1;have HF:=liftF hb1) | (refine wp_bin rfl _ _ _ _ _ rfl _ _ _ rfl rfl rfl ?_;intro r n hr))
 go_ret
 exact ⟨_,rfl,by simp only [boxF,cn_zero, *],(by repeat' (first | exact Below.refl _ _ | exact Nat.le_refl _ | refine below_drewN ?_ _ | refine Below.alloc ?_ (by first | (simp;done) | (simp;omega)) _ | refine Below.setCell ?_ (by first | (simp;done) | (simp;omega)) _ | refine below_step ?_ (by assumption)))⟩

end Go.Proofs.YtbiacfkiakddiaaGreat

namespace Go.Proofs.YtbiacfkiakddiaaGreat
open Go.RowKit Go.Fl
theorem validc_any (a:Nat) (w:World) :
  Calls Tryz.prog 131 #[I64 a] w (fun e w' => e = .returned (.bool (a != 1)) ∧ Below w.heap.size w w'):=by
 go_enter Tryz.func131,Tryz.ntmps131
 by_cases h:a = 1
 ·subst h
  go_wp2_with fail
  go_ret
  exact ⟨rfl,Below.refl _ _⟩
 ·have h2:(a != 1) = true:=by simpa using h
  have h3:(((a:Int)) != 1) = true:=by simp;omega
  rw [h2]
  go_wp2_with fail
  go_ret
  exact ⟨rfl,Below.refl _ _⟩

set_option maxRecDepth 100000 in
set_option maxHeartbeats 1000000 in
theorem index_int (p:Nat → Bool) (xs:List Nat) (bp:Option Addr) (bv ov cap:Nat) (w:World) (h1:xs ≠ [] → bp = some ⟨bv,ov,none⟩) (h2:∀ i (h:i < xs.length),w.cell? ⟨bv,ov + i,none⟩ = some (I64 xs[i])) (hl:xs.length < 10000000)
  (hcall:∀ (x:Nat) w',Below w.heap.size w w' → Calls Tryz.prog 131 #[I64 x] w' (fun e w'' => e = .returned (.bool (p x)) ∧ Below w'.heap.size w' w'')) :
  Calls Tryz.prog 207 #[.slice bp xs.length cap,.func (.func 131) #[] #[]] w (fun e w' => ∃ r:Int,e = .returned (.int .i64 r) ∧ decide (0 ≤ r) = xs.any p ∧ Below w.heap.size w w'):=by
 go_enter Tryz.func207,Tryz.ntmps207
 go_wp2_with fail
 go_loopw [8] (fun i wr => ∃ m:Nat,m ≤ xs.length ∧ i = .int .i64 (m:Int) ∧ (xs.take m).any p = false ∧ Below w.heap.size w wr) (fun i _ => xs.length - (intOf i).toNat)
 case atStart => exact ⟨0,by omega,rfl,rfl,(by repeat' (first | exact Below.refl _ _ | exact Nat.le_refl _ | refine below_drewN ?_ _ | refine Below.alloc ?_ (by first | (simp;done) | (simp;omega)) _ | refine Below.setCell ?_ (by first | (simp;done) | (simp;omega)) _ | refine below_step ?_ (by assumption)))⟩
 case round =>
  obtain ⟨m,hm,rfl,hany,hwr⟩:=hrel
  by_cases hlt:m < xs.length
  ·have hne:xs ≠ []:=by intro h;rw [h] at hlt;simp at hlt
   have hc:=h2 m hlt
   have hlt':(m:Int) < (xs.length:Int):=by omega
   have h0:(0:Int) ≤ (m:Int):=by omega
   have hc':wr.cell? ⟨bv,ov + m,none⟩ = some (I64 xs[m]):=by rw [lift hwr _ (by rw [hc];rfl)];exact hc
   have hbp:=h1 hne
   subst hbp
   clear h1 h2 hc
   go_wp2_with fail
   refine (hcall _ _ hwr).mono ?_
   rintro _ w2 ⟨rfl,hb2⟩
   have hwr2:=below_step hwr hb2
   cases hp:p xs[m]
   ·go_wp2_with fail
    refine ⟨⟨m + 1,by omega,by simp,any_take_succ p xs m hlt hany hp,hwr2⟩,by simp [intOf];omega⟩
   ·go_wp2_with fail
    go_ret
    refine ⟨_,rfl,?_,hwr2⟩
    rw [show xs.any p = true from List.any_eq_true.2 ⟨xs[m],List.getElem_mem _,hp⟩]
    simp
  ·obtain rfl:m = xs.length:=by omega
   go_wp2_with fail
   go_ret
   exact ⟨_,rfl,by rw [List.take_length] at hany;rw [hany];rfl,hwr⟩
set_option maxRecDepth 100000 in
set_option maxHeartbeats 1000000 in
theorem contains_int (p:Nat → Bool) (xs:List Nat) (bp:Option Addr) (bv ov cap:Nat) (w:World) (h1:xs ≠ [] → bp = some ⟨bv,ov,none⟩) (h2:∀ i (h:i < xs.length),w.cell? ⟨bv,ov + i,none⟩ = some (I64 xs[i])) (hl:xs.length < 10000000)
  (hcall:∀ (x:Nat) w',Below w.heap.size w w' → Calls Tryz.prog 131 #[I64 x] w' (fun e w'' => e = .returned (.bool (p x)) ∧ Below w'.heap.size w' w'')) :
  Calls Tryz.prog 130 #[.slice bp xs.length cap,.func (.func 131) #[] #[]] w (fun e w' => e = .returned (.bool (xs.any p)) ∧ Below w.heap.size w w'):=by
 have hi:=index_int p xs bp bv ov cap w h1 h2 hl hcall
 clear h1 h2 hcall
 go_enter Tryz.func130,Tryz.ntmps130
 go_wp2_with fail
 refine hi.mono ?_
 rintro _ w2 ⟨r,rfl,hr,hb2⟩
 cases ha:xs.any p
 ·rw [ha] at hr
  have hr':r < 0:=by simpa using hr
  go_wp2_with fail
  go_ret
  exact ⟨by rw [ha];rfl,hb2⟩
 ·rw [ha] at hr
  have hr':0 ≤ r:=by simpa using hr
  go_wp2_with fail
  go_ret
  exact ⟨by rw [ha];rfl,hb2⟩

end Go.Proofs.YtbiacfkiakddiaaGreat
