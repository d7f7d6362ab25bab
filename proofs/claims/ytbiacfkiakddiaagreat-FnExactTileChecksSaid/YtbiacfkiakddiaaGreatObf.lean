/-
 Lemmas: W14,X2,W16.
-/
import Derived.Test.YtbiacfkiakddiaaGreatObe
set_option linter.unusedVariables false
set_option linter.unusedSimpArgs false
namespace Go.Proofs.YtbiacfkiakddiaaGreat
open Go.RowKit Go.Fl
def topF (ns:List PN) (p:Nat × Nat × Nat):Nat:=distF ns ns.length (ns.length - 1) p

inductive PhiT (ns:List PN):FuncId → Array Value → Value → Prop
 | last (sa:Addr):PhiT ns 83 #[.pointer (some sa)] (.int .i64 ((ns.length:Int) - 1))
 | dist (sa:Addr) (i:Int) (x y z r:Nat) (h:cn .f32 r = distF ns ns.length i.toNat (cn .f32 x,cn .f32 y,cn .f32 z)):PhiT ns 148 #[.pointer (some sa),.int .i64 i,V3 x y z] (F1 r)

theorem last_len {n:Nat} (h:1 ≤ n ∧ n ≤ 1000):wrap64 ((n:Int) - 1) = (n:Int) - 1:=by
 unfold wrap64;omega

set_option maxRecDepth 100000 in
set_option maxHeartbeats 2000000 in
theorem at_any (ns:List PN) (hok:OkAll ns) (hl:1 ≤ ns.length ∧ ns.length ≤ 1000) (sb so nb no cap x y z:Nat) (w:World) (hsh:ShapeIn ns sb so nb no cap w) :
  Calls Tryz.prog 85 #[.pointer (some ⟨sb,so,none⟩),V3 x y z] w (Ret .f32 (topF ns (cn .f32 x,cn .f32 y,cn .f32 z)) w):=by
 have hsb:sb < w.heap.size:=some_lt (a:=⟨sb,so,none⟩) (by rw [hsh.list];rfl)
 have hlast:∀ w',ShapeIn ns sb so nb no cap w' → Calls Tryz.prog 83 #[.pointer (some ⟨sb,so,none⟩)] w' (fun e w'' => e = .returned (.int .i64 ((ns.length:Int) - 1)) ∧ Below w'.heap.size w' w''):=fun w' h =>
  (last_any sb so _ _ _ w' h.list).mono (by rintro _ _ ⟨rfl,rfl⟩;exact ⟨by rw [last_len hl],Below.refl _ _⟩)
 have hdist:∀ (x y z:Nat) (w:World),ShapeIn ns sb so nb no cap w → Calls Tryz.prog 148 #[.pointer (some ⟨sb,so,none⟩),.int .i64 ((ns.length:Int) - 1),V3 x y z] w (Ret .f32 (distF ns ns.length ((ns.length:Int) - 1).toNat (cn .f32 x,cn .f32 y,cn .f32 z)) w):=fun x y z w h => by
  have:=dist_any ns hok sb so nb no cap ns.length (ns.length - 1) x y z w (by omega) (by omega) h
  have e:(((ns.length - 1:Nat):Int)) = (ns.length:Int) - 1:=by omega
  rw [e] at this
  have e2:((ns.length:Int) - 1).toNat = ns.length - 1:=by omega
  rw [e2]
  exact this
 go_enter Tryz.func85,Tryz.ntmps85
 go_wp2_with fail
 have W1b:Below w.heap.size w (w.alloc (.cells #[F1 x,F1 y,F1 z] 38)):=(by repeat' (first | exact Below.refl _ _ | exact Nat.le_refl _ | refine below_drewN ?_ _ | refine Below.alloc ?_ (by simp <;> omega) _ | refine Below.setCell ?_ (by simp <;> omega) _ | refine below_step ?_ (by assumption)))

 have hkept:Kept [(⟨w.heap.size,0,none⟩,F1 x),(⟨w.heap.size,1,none⟩,F1 y),(⟨w.heap.size,2,none⟩,F1 z)] [] (w.alloc (.cells #[F1 x,F1 y,F1 z] 38)):=by
  simp only [Kept,ka,kb,kc,kd,ke,kfa,kga]
  simp
 generalize w.alloc (.cells #[F1 x,F1 y,F1 z] 38) = W1 at W1b hkept ⊢
 have hsh1:=hsh.keep W1b
 refine Qr.wp_below_all (by kernel_rfl) (by kernel_rfl) (PhiT ns) ?_
 repeat (first | (refine Qr.walk_plain rfl fun K hK => ?_;apply Qr.one_det;(focus (intro w' hw';have HK:=keep hkept hw';simp only [Kept,ka,kb,kc,kd,ke,kfa,kga] at HK;go_simp;first | done | rfl));go_simp;refine hK _ ?_;clear hK K) | (refine Qr.walk_plain rfl fun K hK => ?_;apply Qr.one_call;(focus (intro w' hw';go_simp;first | done | exact ⟨rfl,rfl⟩));(focus (intro w' hw'; go_at_call 83;refine (hlast _ (hsh1.keep hw')).mono ?_;rintro _ w3 ⟨rfl,hb1⟩ ;exact ⟨_,rfl,by constructor <;> assumption,below_step hw' (by assumption),by assumption⟩));intro v hv;cases hv;go_simp;refine hK _ ?_;clear hK K) | (refine Qr.walk_plain rfl fun K hK => ?_;apply Qr.one_call;(focus (intro w' hw';go_simp;first | done | exact ⟨rfl,rfl⟩));(focus (intro w' hw'; go_at_call 148;refine (hdist _ _ _ _ (hsh1.keep hw')).mono ?_;rintro _ w3 ⟨r1,rfl,hr1,hb1⟩ ;exact ⟨_,rfl,by constructor <;> assumption,below_step hw' (by assumption),by assumption⟩));intro v hv;cases hv;go_simp;refine hK _ ?_;clear hK K))
 rename_i r e
 refine Qr.walk_nil fun w5 hw5 => ?_
 go_wp2_with fail
 go_ret
 have e2:((ns.length:Int) - 1).toNat = ns.length - 1:=by omega
 exact ⟨r,rfl,by rw [e,e2];rfl,below_step W1b hw5⟩
end Go.Proofs.YtbiacfkiakddiaaGreat

namespace Go.Proofs.YtbiacfkiakddiaaGreat
open Go.RowKit Go.Fl
def gek (k:FloatKind) (x y:Nat):Bool:=k.format.order x y == some .gt || k.format.order x y == some .eq
def kf (k:Nat):Nat:=cn .f32 (floatOfInt .f32 (k:Int))
def ambX (d f:Nat):Nat:=if gek .f32 (B .quo (B .sub f d) f) 0 then B .quo (B .sub f d) f else 0
def ambGo (D:Nat × Nat × Nat → Nat) (L:Nat → Nat) (p n:Nat × Nat × Nat) (st:Nat):Nat → Nat → Nat → Nat
 | 0,_,s => s
 | m + 1,j,s => ambGo D L p n st m (j + 1) (B .add s (L (ambX (D (addV p (scaleV n (B .mul (kf j) st)))) (B .mul (kf j) st))))
def ambAll (D:Nat × Nat × Nat → Nat) (L:Nat → Nat) (p n:Nat × Nat × Nat) (st k:Nat):Nat :=
 B .sub (cn .f32 1065353216) (B .quo (ambGo D L p n st k 1 0) (kf k))
def capF (x:Nat):Nat:=lesserF x (cn .f32 1065353216)

inductive PhiAm (ns:List PN) (f:Nat):FuncId → Array Value → Value → Prop
 | scale (x y z a b c:Nat) (h1:cn .f32 a = B .mul (cn .f32 x) (cn .f32 f)) (h2:cn .f32 b = B .mul (cn .f32 y) (cn .f32 f)) (h3:cn .f32 c = B .mul (cn .f32 z) (cn .f32 f)):PhiAm ns f 233 #[V3 x y z,F1 f] (V3 a b c)
 | add (x y z x' y' z' a b c:Nat) (h1:cn .f32 a = B .add (cn .f32 x) (cn .f32 x')) (h2:cn .f32 b = B .add (cn .f32 y) (cn .f32 y')) (h3:cn .f32 c = B .add (cn .f32 z) (cn .f32 z')):PhiAm ns f 232 #[V3 x y z,V3 x' y' z'] (V3 a b c)
 | at_ (sa:Addr) (x y z r:Nat) (h:cn .f32 r = topF ns (cn .f32 x,cn .f32 y,cn .f32 z)):PhiAm ns f 85 #[.pointer (some sa),V3 x y z] (F1 r)

set_option maxRecDepth 100000 in
set_option maxHeartbeats 4000000 in
theorem ambient_any (ns:List PN) (hok:OkAll ns) (hl:1 ≤ ns.length ∧ ns.length ≤ 1000) (sb so nb no cap x y z nx ny nz st:Nat) (k:Nat) (hk:k ≤ 8) (w:World) (hsh:ShapeIn ns sb so nb no cap w) :
  Calls Tryz.prog 180 #[.pointer (some ⟨sb,so,none⟩),V3 x y z,V3 nx ny nz,F1 st,.int .i64 (k:Int)] w (Ret .f32 (ambAll (topF ns) capF (cn .f32 x,cn .f32 y,cn .f32 z) (cn .f32 nx,cn .f32 ny,cn .f32 nz) (cn .f32 st) k) w):=by
 obtain ⟨R,hR⟩:∃ R,Hid (R = ambGo (topF ns) capF (cn .f32 x,cn .f32 y,cn .f32 z) (cn .f32 nx,cn .f32 ny,cn .f32 nz) (cn .f32 st) k 1 0):=⟨_,rfl⟩
 rw [ambAll,← hR.out]
 have hsb:sb < w.heap.size:=some_lt (a:=⟨sb,so,none⟩) (by rw [hsh.list];rfl)
 have hat:∀ (x y z:Nat) (w:World),ShapeIn ns sb so nb no cap w → Calls Tryz.prog 85 #[.pointer (some ⟨sb,so,none⟩),V3 x y z] w (Ret .f32 (topF ns (cn .f32 x,cn .f32 y,cn .f32 z)) w):=fun x y z w h => at_any ns hok hl sb so nb no cap x y z w h
 go_enter Tryz.func180,Tryz.ntmps180
 go_wp2_with fail
 have W1b:Below w.heap.size w ((w.alloc (.cells #[F1 x,F1 y,F1 z] 38)).alloc (.cells #[F1 nx,F1 ny,F1 nz] 38)):=(by repeat' (first | exact Below.refl _ _ | exact Nat.le_refl _ | refine below_drewN ?_ _ | refine Below.alloc ?_ (by simp <;> omega) _ | refine Below.setCell ?_ (by simp <;> omega) _ | refine below_step ?_ (by assumption)))

 have hkept:Kept [(⟨w.heap.size,0,none⟩,F1 x),(⟨w.heap.size,1,none⟩,F1 y),(⟨w.heap.size,2,none⟩,F1 z),(⟨w.heap.size + 1,0,none⟩,F1 nx),(⟨w.heap.size + 1,1,none⟩,F1 ny),(⟨w.heap.size + 1,2,none⟩,F1 nz)] [] ((w.alloc (.cells #[F1 x,F1 y,F1 z] 38)).alloc (.cells #[F1 nx,F1 ny,F1 nz] 38)):=by
  simp only [Kept,ka,kb,kc,kd,ke,kfa,kga]
  simp
 generalize (w.alloc (.cells #[F1 x,F1 y,F1 z] 38)).alloc (.cells #[F1 nx,F1 ny,F1 nz] 38) = W1 at *
 have hsh1:=hsh.keep W1b
 clear hsh hok
 go_loopw [11,12] (fun s i wr => ∃ (j sm:Nat),1 ≤ j ∧ j ≤ k + 1 ∧ i = .int .i64 (j:Int) ∧ s = F1 sm ∧ Hid (R = ambGo (topF ns) capF (cn .f32 x,cn .f32 y,cn .f32 z) (cn .f32 nx,cn .f32 ny,cn .f32 nz) (cn .f32 st) (k + 1 - j) j (cn .f32 sm)) ∧ Below W1.heap.size W1 wr) (fun _ i _ => 10 - (intOf i).toNat)
 case atStart => exact ⟨1,0,by omega,by omega,rfl,rfl,by unfold Hid;rw [hR.out,cn_zero];rfl,Below.refl _ _⟩
 case round =>
  obtain ⟨j,sm,hj1,hjk,rfl,rfl,hgo,Wb⟩:=hrel
  have hkr:=keep hkept Wb
  have hshr:=hsh1.keep Wb
  clear hkept hsh1 hR
  by_cases hle:j ≤ k
  ·have hle':(j:Int) ≤ (k:Int):=by omega
   have hj9:(j:Int) ≤ 8:=by omega
   have hgo2:Hid (R = ambGo (topF ns) capF (cn .f32 x,cn .f32 y,cn .f32 z) (cn .f32 nx,cn .f32 ny,cn .f32 nz) (cn .f32 st) (k - j) (j + 1) (B .add (cn .f32 sm) (capF (ambX (topF ns (addV (cn .f32 x,cn .f32 y,cn .f32 z) (scaleV (cn .f32 nx,cn .f32 ny,cn .f32 nz) (B .mul (kf j) (cn .f32 st))))) (B .mul (kf j) (cn .f32 st)))))):=by
    have:=hgo.out
    rw [show k + 1 - j = (k - j) + 1 by omega,ambGo] at this
    exact this
   clear hgo
   go_upto_region 6 with (refine wp_bin rfl _ _ _ _ _ rfl _ _ _ rfl rfl rfl ?_;intro f1 n1 hf1)
   have hb1:Below wr.heap.size wr (wr.drewN n1):=below_drewN (Below.refl _ _) n1
   have hkept:=keep hkr hb1
   have hsh2:=hshr.keep hb1
   have W2b:=below_step Wb hb1
   clear hkr hshr Wb hb1
   generalize wr.drewN n1 = w1 at *
   refine Qr.wp_below_all (by kernel_rfl) (by kernel_rfl) (PhiAm ns f1) ?_
   repeat (first | (refine Qr.walk_plain rfl fun K hK => ?_;apply Qr.one_det;(focus (intro w' hw';have HK:=keep hkept hw';simp only [Kept,ka,kb,kc,kd,ke,kfa,kga] at HK;go_simp;first | done | rfl));go_simp;refine hK _ ?_;clear hK K) | (refine Qr.walk_plain rfl fun K hK => ?_;apply Qr.one_call;(focus (intro w' hw';go_simp;first | done | exact ⟨rfl,rfl⟩));(focus (intro w' hw'; go_at_call 233;refine (scale_any _ _ _ _ _).mono ?_;rintro _ w3 ⟨r1,r2,r3,rfl,hr1,hr2,hr3,hb1⟩ ;exact ⟨_,rfl,by constructor <;> assumption,below_step hw' (by assumption),by assumption⟩));intro v hv;cases hv;go_simp;refine hK _ ?_;clear hK K) | (refine Qr.walk_plain rfl fun K hK => ?_;apply Qr.one_call;(focus (intro w' hw';go_simp;first | done | exact ⟨rfl,rfl⟩));(focus (intro w' hw'; go_at_call 232;refine (add_any _ _ _ _ _ _ _).mono ?_;rintro _ w3 ⟨r1,r2,r3,rfl,hr1,hr2,hr3,hb1⟩ ;exact ⟨_,rfl,by constructor <;> assumption,below_step hw' (by assumption),by assumption⟩));intro v hv;cases hv;go_simp;refine hK _ ?_;clear hK K) | (refine Qr.walk_plain rfl fun K hK => ?_;apply Qr.one_call;(focus (intro w' hw';go_simp;first | done | exact ⟨rfl,rfl⟩));(focus (intro w' hw'; go_at_call 85;refine (hat _ _ _ _ (hsh2.keep hw')).mono ?_;rintro _ w3 ⟨r1,rfl,hr1,hb1⟩ ;exact ⟨_,rfl,by constructor <;> assumption,below_step hw' (by assumption),by assumption⟩));intro v hv;cases hv;go_simp;refine hK _ ?_;clear hK K))
   rename_i a1 b1 c1 g1 g2 g3 a2 b2 c2 g4 g5 g6 d1 hd1
   refine Qr.walk_nil fun w5 hw5 => ?_
   have hfin:Hid (R = ambGo (topF ns) capF (cn .f32 x,cn .f32 y,cn .f32 z) (cn .f32 nx,cn .f32 ny,cn .f32 nz) (cn .f32 st) (k - j) (j + 1) (B .add (cn .f32 sm) (capF (ambX (cn .f32 d1) (cn .f32 f1))))):=by
    unfold Hid
    rw [hgo2.out,hd1,g4,g5,g6,g1,g2,g3,hf1]
    rfl
   clear hgo2 hd1 g4 g5 g6 g1 g2 g3 hf1
   have W5b:=below_step W2b hw5
   clear hkept hw5 W2b hsh2
   go_wp2_with (first | (go_at_call 221;refine (lesser_any _ _ _).mono ?_;rintro _ w2 ⟨r1,rfl,hr1,hb1⟩;have HL:=lift hb1;have HF:=liftF hb1) | (refine wp_bin rfl _ _ _ _ _ rfl _ _ _ rfl rfl rfl ?_;intro r n hr))
   all_goals
    rename_i rs ms hrs rq mq hrq hb
    have e1:B .sub (cn .f32 f1) (cn .f32 d1) = cn .f32 rs:=hrs.symm
    have e2:B .quo (cn .f32 rs) (cn .f32 f1) = cn .f32 rq:=hrq.symm
   ·have hg:gek .f32 (cn .f32 rq) 0 = false:=by unfold gek;rw [ord_r0];simpa using hb
    have hx:ambX (cn .f32 d1) (cn .f32 f1) = cn .f32 0:=by unfold ambX;rw [e1,e2,hg,cn_zero];rfl
    exact ⟨⟨j + 1,r,by omega,by omega,rfl,rfl,by unfold Hid;rw [hfin.out,hx,hr,hr1,Nat.add_sub_add_right];rfl,below_drewN (below_step (below_drewN W5b _) hb1) _⟩,by simp [intOf];omega⟩
   ·have hg:gek .f32 (cn .f32 rq) 0 = true:=by unfold gek;rw [ord_r0];simpa using hb
    have hx:ambX (cn .f32 d1) (cn .f32 f1) = cn .f32 rq:=by unfold ambX;rw [e1,e2,hg];rfl
    exact ⟨⟨j + 1,r,by omega,by omega,rfl,rfl,by unfold Hid;rw [hfin.out,hx,hr,hr1,Nat.add_sub_add_right];rfl,below_drewN (below_step (below_drewN W5b _) hb1) _⟩,by simp [intOf];omega⟩
  ·have hle':¬ (j:Int) ≤ (k:Int):=by omega
   obtain rfl:j = k + 1:=by omega
   have hRs:Hid (R = cn .f32 sm):=by have:=hgo.out;rwa [Nat.sub_self,ambGo] at this
   clear hgo
   go_wp2_with ((refine wp_bin rfl _ _ _ _ _ rfl _ _ _ rfl rfl rfl ?_;intro r n hr))
   go_ret
   exact ⟨_,rfl,by rw [hRs.out];simp only [*];rfl,below_step W1b (by exact below_drewN Wb _)⟩
end Go.Proofs.YtbiacfkiakddiaaGreat

namespace Go.Proofs.YtbiacfkiakddiaaGreat
open Go.RowKit Go.Fl
def numOk (k:Int) (xs:List Nat):Bool:=kindOk k && decide (xs.length = (ruleF k).1) && !xs.any (fun x => !finP x) && !xs.any (signBad (ruleF k).2.2.2)
theorem sign_le (k:Int):(ruleF k).2.2.2 ≤ 2:=by
 unfold ruleF;split
 ·unfold ruleT;split <;> simp
 ·simp

set_option maxRecDepth 100000 in
set_option maxHeartbeats 1000000 in
theorem numbersOk_any (k:Int) (xs:List Nat) (bp:Option Addr) (bv ov cap:Nat) (w:World) (h1:xs ≠ [] → bp = some ⟨bv,ov,none⟩) (h2:∀ i (h:i < xs.length),w.cell? ⟨bv,ov + i,none⟩ = some (F1 xs[i])) (hl:xs.length < 10000000) :
  Calls Tryz.prog 128 #[.int .i64 k,.slice bp xs.length cap] w (fun e w' => e = .returned (.bool (numOk k xs)) ∧ Below w.heap.size w w'):=by
 go_enter Tryz.func128,Tryz.ntmps128
 go_wp2_with fail
 refine (rule_any k w).mono ?_
 rintro _ w2 ⟨rfl,hb2⟩
 have hr2:(ruleF k).2.2.2 ≤ 2:=sign_le k
 have W3b:Below w.heap.size w (w2.alloc (.cells #[I64 (ruleF k).1,I64 (ruleF k).2.1,.bool (ruleF k).2.2.1,I64 (ruleF k).2.2.2] 217)):=hb2.alloc hb2.size _
 have hkept:Kept [(⟨w2.heap.size,0,none⟩,I64 (ruleF k).1),(⟨w2.heap.size,3,none⟩,I64 (ruleF k).2.2.2)] [] (w2.alloc (.cells #[I64 (ruleF k).1,I64 (ruleF k).2.1,.bool (ruleF k).2.2.1,I64 (ruleF k).2.2.2] 217)):=by
  simp only [Kept,ka,kb,kc,kd,ke,kfa,kga]
  simp
 simp only [ruleV]
 have hn:numOk k xs = (kindOk k && decide (xs.length = (ruleF k).1) && !xs.any (fun x => !finP x) && !xs.any (signBad (ruleF k).2.2.2)):=rfl
 generalize kindOk k = ko at *
 generalize hrk:ruleF k = rk at *
 obtain ⟨n0,n1,n2,n3⟩:=rk
 simp only at hn hr2 W3b hkept ⊢
 have W3c:Below w.heap.size w (w2.alloc (.cells #[I64 n0,I64 n1,.bool n2,I64 n3] 217)):=W3b
 have h3:∀ i (h:i < xs.length),(w2.alloc (.cells #[I64 n0,I64 n1,.bool n2,I64 n3] 217)).cell? ⟨bv,ov + i,none⟩ = some (F1 xs[i]):=fun i hi => by rw [lift W3c _ (by rw [h2 i hi];rfl)];exact h2 i hi
 clear h2
 cases ko
 ·go_wp2_with fail
  go_ret
  exact ⟨by rw [hn];rfl,W3c⟩
 by_cases hlen:xs.length = n0
 ·subst hlen
  have hfin:=finite_any xs bp bv ov cap _ h1 h3 hl
  go_wp2_with fail
  refine hfin.mono ?_
  rintro _ w4 ⟨rfl,hb4⟩
  have W4b:=below_step W3c hb4
  cases hf:xs.any (fun x => !finP x)
  ·have h4:∀ i (h:i < xs.length),w4.cell? ⟨bv,ov + i,none⟩ = some (F1 xs[i]):=fun i hi => by rw [lift hb4 _ (by rw [h3 i hi];rfl)];exact h3 i hi
   have hkept4:=keep hkept hb4
   have hc:=contains_sign ⟨w2.heap.size,0,none⟩ (signBad n3) xs bp bv ov cap w4 h1 h4 hl (fun x w' hw' => signc_any n3 hr2 x w2.heap.size 0 w' (by
    have hK:=keep hkept4 hw'
    simp only [Kept,ka,kb,kc,kd,ke,kfa,kga] at hK
    exact hK.2))
   clear h1 h3 h4 hkept hfin
   go_wp2_with fail
   refine hc.mono ?_
   rintro _ w5 ⟨rfl,hb5⟩
   go_wp2_with fail
   go_ret
   exact ⟨by rw [hn,hf];simp,below_step W4b hb5⟩
  ·clear h1 h3
   go_wp2_with fail
   go_ret
   exact ⟨by rw [hn,hf];simp,W4b⟩
 ·have hlen':(xs.length:Int) ≠ (n0:Int):=by omega
  clear h1 h3
  go_wp2_with fail
  go_ret
  exact ⟨by rw [hn];simp [hlen],W3c⟩

def axOk (k a b:Int):Bool:=(decide (0 < (ruleF k).2.1) || decide (a = 0)) && (decide ((ruleF k).2.1 = 2) || decide (b = 0) || ((ruleF k).2.2.1 && (decide (0 ≤ b) && decide (b ≤ 2))))

theorem kids_cases (k:Int):(ruleF k).2.1 = 0 ∨ (ruleF k).2.1 = 1 ∨ (ruleF k).2.1 = 2:=by
 unfold ruleF;split
 ·unfold ruleT;split <;> simp
 ·simp

set_option maxRecDepth 100000 in
set_option maxHeartbeats 4000000 in
theorem axisOk_any (nb no:Nat) (k x y:Int) (w:World) (h0:w.cell? ⟨nb,no,none⟩ = some (.int .i64 k)) (h1:w.cell? ⟨nb,no + 1,none⟩ = some (.int .i64 x)) (h2:w.cell? ⟨nb,no + 2,none⟩ = some (.int .i64 y)) :
  Calls Tryz.prog 129 #[.pointer (some ⟨nb,no,none⟩)] w (fun e w' => e = .returned (.bool (axOk k x y)) ∧ Below w.heap.size w w'):=by
 have hb:nb < w.heap.size:=some_lt (a:=⟨nb,no,none⟩) (by rw [h0];rfl)
 go_enter Tryz.func129,Tryz.ntmps129
 go_wp2_with fail
 refine (rule_any k w).mono ?_
 rintro _ w2 ⟨rfl,hb2⟩
 have W3b:Below w.heap.size w (w2.alloc (.cells #[I64 (ruleF k).1,I64 (ruleF k).2.1,.bool (ruleF k).2.2.1,I64 (ruleF k).2.2.2] 217)):=hb2.alloc hb2.size _
 simp only [ruleV]
 have hn:Hid (axOk k x y = ((decide (0 < (ruleF k).2.1) || decide (x = 0)) && (decide ((ruleF k).2.1 = 2) || decide (y = 0) || ((ruleF k).2.2.1 && (decide (0 ≤ y) && decide (y ≤ 2)))))):=by unfold Hid;rfl
 have h3:w2.cell? ⟨nb,no + 1,none⟩ = some (.int .i64 x):=by rw [lift hb2 _ (by rw [h1];rfl)];exact h1
 have h4:w2.cell? ⟨nb,no + 2,none⟩ = some (.int .i64 y):=by rw [lift hb2 _ (by rw [h2];rfl)];exact h2
 have hnb2:nb < w2.heap.size:=some_lt (a:=⟨nb,no + 1,none⟩) (by rw [h3];rfl)
 have hk3:=kids_cases k
 clear h0 h1 h2 hb2
 generalize (ruleF k).2.2.1 = n2 at *
 generalize (ruleF k).2.1 = n1 at *
 by_cases hx:x = 0 <;> by_cases hy:y = 0 <;> cases n2 <;> rcases hk3 with h | h | h <;> subst h
 all_goals try subst hx
 all_goals try subst hy
 all_goals
  go_wp2_with (go_at_call 74;refine (in_any _ _ _ _).mono ?_;rintro _ w5 ⟨rfl,rfl⟩)
  go_ret
  exact ⟨by rw [hn.out];simp [*],W3b⟩
end Go.Proofs.YtbiacfkiakddiaaGreat
