/-
 Lemmas: E,P,Phi,V24,W9,S5,W10,Y13.
-/
import Derived.Test.YtbiacfkiakddiaaGreatNaa
import Derived.Test.YtbiacfkiakddiaaGreatNag
import Derived.BigRegion
import Derived.ChangeAlike
import Derived.Deep.AppendLies
import Derived.Deep.DeepCutAuto
import Derived.Deep.Onto
import Derived.Deep.RegionHeld
import Derived.KernelRfl
import Derived.Laws.FloatArith
import Derived.Laws.MakeOwn
import Derived.Lib.Hide
import Derived.Outline
import Derived.OwnWalk
import Derived.RegionTactic
import Derived.Test.YtbiacfkiakddiaaGreatChecked
set_option linter.unusedVariables false
set_option linter.unusedSimpArgs false
namespace Go.Proofs.YtbiacfkiakddiaaGreat
open Go.RowKit
theorem ext_sqrt (args:Array Value) (w:World):(callFunc 284 args).run Tryz.prog w = ((Extern.MathSqrt.sqrt args).run Tryz.prog w).andThen fun v w' => .ok (.value v) w' :=
 run_callFunc_extern Tryz.func284 (by kernel_rfl) (by kernel_rfl) (by kernel_rfl) (by kernel_rfl) args w
theorem ext_rte (args:Array Value) (w:World):(callFunc 255 args).run Tryz.prog w = ((Extern.MathFloor.toIntegral "math.RoundToEven" .even args).run Tryz.prog w).andThen fun v w' => .ok (.value v) w' :=
 run_callFunc_extern Tryz.func255 (by kernel_rfl) (by kernel_rfl) (by kernel_rfl) (by kernel_rfl) args w
theorem ext_trunc (args:Array Value) (w:World):(callFunc 273 args).run Tryz.prog w = ((Extern.MathFloor.toIntegral "math.archTrunc" .zero args).run Tryz.prog w).andThen fun v w' => .ok (.value v) w' :=
 run_callFunc_extern Tryz.func273 (by kernel_rfl) (by kernel_rfl) (by kernel_rfl) (by kernel_rfl) args w
theorem ext_bits (args:Array Value) (w:World):(callFunc 272 args).run Tryz.prog w = ((Extern.MathFloatBits.float64bits args).run Tryz.prog w).andThen fun v w' => .ok (.value v) w' :=
 run_callFunc_extern Tryz.func272 (by kernel_rfl) (by kernel_rfl) (by kernel_rfl) (by kernel_rfl) args w
theorem ext_frombits (args:Array Value) (w:World):(callFunc 202 args).run Tryz.prog w = ((Extern.MathFloatBits.float64frombits args).run Tryz.prog w).andThen fun v w' => .ok (.value v) w' :=
 run_callFunc_extern Tryz.func202 (by kernel_rfl) (by kernel_rfl) (by kernel_rfl) (by kernel_rfl) args w
theorem some_f32:(Tryz.prog.underlying 25).isSome = true:=by rw [Tryz.underlying25,Option.isSome_some]
theorem some_f64:(Tryz.prog.underlying 89).isSome = true:=by rw [Tryz.underlying89,Option.isSome_some]
end Go.Proofs.YtbiacfkiakddiaaGreat

namespace Go.Fl
open Go Go.RowKit
/-- x < y,at words. -/
def ltk (k:FloatKind) (x y:Nat):Bool:=k.format.order x y == some .lt
def gtk (k:FloatKind) (x y:Nat):Bool:=k.format.order x y == some .gt
def eqk (k:FloatKind) (x y:Nat):Bool:=k.format.order x y == some .eq
def lek (k:FloatKind) (x y:Nat):Bool:=k.format.order x y == some .lt || k.format.order x y == some .eq
theorem ltk_cn (k:FloatKind) (x y:Nat):ltk k (cn k x) (cn k y) = ltk k x y:=by unfold ltk;rw [order_cn]
theorem gtk_cn (k:FloatKind) (x y:Nat):gtk k (cn k x) (cn k y) = gtk k x y:=by unfold gtk;rw [order_cn]
theorem xor_mod (x n:Nat):(x ^^^ 2 ^ n) % 2 ^ n = x % 2 ^ n:=by rw [Nat.xor_mod_two_pow];simp
theorem xor_div (x n:Nat):(x ^^^ 2 ^ n) / 2 ^ n % 2 = (x / 2 ^ n + 1) % 2:=by
 have h:(x ^^^ 2 ^ n).testBit n = !x.testBit n:=by simp [Nat.testBit_xor]
 rw [Nat.testBit_eq_decide_div_mod_eq,Nat.testBit_eq_decide_div_mod_eq] at h
 have h1:(x ^^^ 2 ^ n) / 2 ^ n % 2 < 2:=Nat.mod_lt _ (by decide)
 have h2:x / 2 ^ n % 2 < 2:=Nat.mod_lt _ (by decide)
 by_cases e:x / 2 ^ n % 2 = 1
 ·have:¬ (x ^^^ 2 ^ n) / 2 ^ n % 2 = 1:=by simpa [e] using h
  omega
 ·have:(x ^^^ 2 ^ n) / 2 ^ n % 2 = 1:=by simpa [e] using h
  omega

theorem decode_neg (k:FloatKind) (x:Nat):k.decode (Op.negFloat k x) = (k.decode x).opposite:=by
 have hs:k.format.signWeight = 2 ^ (k.format.exponentBits + k.format.fractionBits):=rfl
 show k.format.read (x ^^^ 2 ^ (k.format.exponentBits + k.format.fractionBits)) = _
 show _ = (k.format.read x).opposite
 unfold Ieee.Format.read
 rw [hs]
 simp only [xor_mod,xor_div]
 have hb:((x / 2 ^ (k.format.exponentBits + k.format.fractionBits) + 1) % 2 == 1) = !(x / 2 ^ (k.format.exponentBits + k.format.fractionBits) % 2 == 1):=by
  rw [Bool.eq_iff_iff];simp;omega
 rw [hb]
 split
 ·rfl
 ·split
  ·rfl
  ·split <;> rfl

/-- -x. -/
def negc (k:FloatKind) (x:Nat):Nat:=cn k (Op.negFloat k x)
theorem negc_cn (k:FloatKind) (x:Nat):negc k (cn k x) = cn k (Op.negFloat k x):=by
 unfold negc
 cases h:(k.decode x).isNaN
 ·rw [cn_of_not h]
 ·rw [cn_of_nan (by rw [decode_neg,opp_nan,isNaN_cn];exact h),cn_of_nan (by rw [decode_neg,opp_nan];exact h)]

theorem cn_zero (k:FloatKind):cn k 0 = 0:=by cases k <;> decide +kernel
theorem ord_r0 (k:FloatKind) (x:Nat):k.format.order (cn k x) 0 = k.format.order x 0:=by have:=order_cn k x 0;rwa [cn_zero] at this
theorem gtk_of {x:Nat} {b:Bool} (h:(FloatKind.f32.format.order x 0 == some .gt) = b):gtk .f32 (cn .f32 x) 0 = b:=by unfold gtk;rw [ord_r0];exact h
abbrev B (op:BinOp) (x y:Nat):Nat:=bin op .f32 x y

/-- impl -/
def sizeF (x:Nat):Nat:=if ltk .f32 x 0 then negc .f32 x else x
def lesserF (a b:Nat):Nat:=if ltk .f32 b a then b else a
def greaterF (a b:Nat):Nat:=if gtk .f32 b a then b else a
def shortF (y h:Nat):Nat:=B .sub y (lesserF (greaterF 0 y) h)
def innerF (a b c d e f:Nat):Nat:=B .add (B .add (B .mul a d) (B .mul b e)) (B .mul c f)
def rootF (x:Nat):Nat:=nar (sqr (wid x))
def longF (a b c:Nat):Nat:=rootF (innerF a b c a b c)
def bulgeF (h k:Nat):Nat:=if gtk .f32 h 0 then B .quo (B .mul h h) (B .mul 1082130432 k) else 0
def nearF (x:Nat):Nat:=nar (whole .even (wid x))
def foldF (c s:Nat):Nat:=B .mul (B .mul 1073741824 s) (nearF (B .quo c (B .mul 1073741824 s)))

/-- impl: leaves,mixes. -/
def ballF (x y z r:Nat):Nat:=B .sub (longF x y z) r
def boxF (x y z u v t:Nat):Nat :=
 B .add (longF (greaterF 0 (B .sub (sizeF x) u)) (greaterF 0 (B .sub (sizeF y) v)) (greaterF 0 (B .sub (sizeF z) t)))
  (lesserF 0 (greaterF (greaterF (B .sub (sizeF x) u) (B .sub (sizeF y) v)) (B .sub (sizeF z) t)))
def tubeF (x y z h r:Nat):Nat:=B .sub (longF x (shortF y h) z) r
def ringF (x y z u r:Nat):Nat:=B .sub (longF (B .sub (longF x 0 z) u) y 0) r
def planeF (x y z a b c d:Nat):Nat:=B .sub (innerF x y z a b c) d
def smoothF (a b k:Nat):Nat:=if gtk .f32 (B .sub k (sizeF (B .sub a b))) 0 then B .sub (lesserF a b) (bulgeF (B .sub k (sizeF (B .sub a b))) k) else lesserF a b

abbrev D (op:BinOp) (x y:Nat):Nat:=bin op .f64 x y
def gek (k:FloatKind) (x y:Nat):Bool:=k.format.order x y == some .gt || k.format.order x y == some .eq
/-- |x|,as math.Abs has it. -/
def absW (x:Nat):Nat:=(Go.bits .andNot .u64 (x:Int) 9223372036854775808).toNat
/-- 2 k (2 k + 1),with k = 8 - n. -/
def facN (n:Nat):Int:=2 * (8 - (n:Int)) * (2 * (8 - (n:Int)) + 1)
def polyF (u:Nat):Nat → Nat
 | 0 => 4607182418800017408
 | n + 1 => D .sub 4607182418800017408 (D .quo (D .mul u (polyF u n)) (floatOfInt .f64 (facN n)))
def sin1 (f:Nat):Nat:=if eqk .f64 (whole .zero f) 0 then f else D .sub f (whole .zero f)
def sin2 (f:Nat):Nat:=if ltk .f64 (sin1 f) 0 then D .add (sin1 f) 4607182418800017408 else sin1 f
def sinT (f:Nat):Bool:=gek .f64 (sin2 f) 4602678819172646912
def sin3 (f:Nat):Nat:=if sinT f then D .sub (sin2 f) 4602678819172646912 else sin2 f
def sin4 (f:Nat):Nat:=if gtk .f64 (sin3 f) 4598175219545276416 then D .sub 4602678819172646912 (sin3 f) else sin3 f
def sinZ (f:Nat):Nat:=D .mul (sin4 f) 4618760256179416344
def sinO (f:Nat):Nat:=D .mul (sinZ f) (polyF (D .mul (sinZ f) (sinZ f)) 8)
def sinW (f:Nat):Nat:=if sinT f then negc .f64 (sinO f) else sinO f
def sineF (x:Nat):Nat:=if eqk .f32 (B .sub x x) 0 then (if gek .f64 (absW (wid x)) 4841369599423283200 then 0 else nar (sinW (wid x))) else nanw .f32

theorem fits_nan:fits (nanw .f64):=by
 intro s m e h
 have:=nan_nanw .f64
 rw [h] at this
 cases this
theorem nar_nan:nar (nanw .f64) = nanw .f32:=by unfold nar;rw [nan_nanw];rfl
theorem cn_ofInt (k:FloatKind) (n:Int):cn k (floatOfInt k n) = floatOfInt k n:=cn_enc (d:=.number (n < 0) n.natAbs 0) rfl
theorem cn_c1:cn .f64 4607182418800017408 = 4607182418800017408:=by decide +kernel
theorem cn_c2:cn .f64 4602678819172646912 = 4602678819172646912:=by decide +kernel
theorem cn_c3:cn .f64 4598175219545276416 = 4598175219545276416:=by decide +kernel
theorem cn_c4:cn .f64 4618760256179416344 = 4618760256179416344:=by decide +kernel
theorem cn_c6:cn .f32 1048576000 = 1048576000:=by decide +kernel
theorem cn_c7:cn .f32 1073741824 = 1073741824:=by decide +kernel
theorem cn_c8:cn .f32 1082130432 = 1082130432:=by decide +kernel
theorem ord_c (k:FloatKind) (x:Nat) {c:Nat} (h:cn k c = c):k.format.order (cn k x) c = k.format.order x c:=by have:=order_cn k x c;rwa [h] at this
theorem eqk_ne {k:FloatKind} {x:Nat} {b:Bool} (h:(k.format.order x 0 != some .eq) = b):eqk k (cn k x) 0 = !b:=by unfold eqk;rw [ord_r0,← h,bne,Bool.not_not]
theorem ltk_of' {k:FloatKind} {x:Nat} {b:Bool} (h:(k.format.order x 0 == some .lt) = b):ltk k (cn k x) 0 = b:=by unfold ltk;rw [ord_r0];exact h
theorem gtk_c {k:FloatKind} {x c:Nat} {b:Bool} (hc:cn k c = c) (h:(k.format.order x c == some .gt) = b):gtk k (cn k x) c = b:=by unfold gtk;rw [ord_c k x hc];exact h
theorem gek_c {k:FloatKind} {x c:Nat} (hc:cn k c = c):gek k (cn k x) c = (k.format.order x c == some .gt || k.format.order x c == some .eq):=by unfold gek;rw [ord_c k x hc]

def turn1 (t i j:Nat):Nat:=B .add (B .mul (sineF (B .sub 1048576000 t)) i) (B .mul (sineF t) j)
def turn2 (t i j:Nat):Nat:=B .sub (B .mul (sineF (B .sub 1048576000 t)) j) (B .mul (sineF t) i)
def foldedF (c s:Nat):Nat:=sizeF (B .sub c (foldF c s))

/-- A vector's result. -/
def RetV (x y z:Nat) (w:World) (e:Ending) (w':World):Prop :=
 ∃ a b c,e = .returned (.agg #[.float .f32 a,.float .f32 b,.float .f32 c]) ∧ cn .f32 a = x ∧ cn .f32 b = y ∧ cn .f32 c = z ∧ Below w.heap.size w w'
end Go.Fl

namespace Go.Proofs.YtbiacfkiakddiaaGreat
open Go.RowKit Go.Fl
abbrev V3 (a b c:Nat):Value:=.agg #[.float .f32 a,.float .f32 b,.float .f32 c]
abbrev F1 (a:Nat):Value:=.float .f32 a

inductive PhiF:FuncId → Array Value → Value → Prop
 | long (a b c r:Nat) (h:cn .f32 r = longF (cn .f32 a) (cn .f32 b) (cn .f32 c)):PhiF 250 #[V3 a b c] (F1 r)
 | inner (a b c d e f r:Nat) (h:cn .f32 r = innerF (cn .f32 a) (cn .f32 b) (cn .f32 c) (cn .f32 d) (cn .f32 e) (cn .f32 f)):PhiF 176 #[V3 a b c,V3 d e f] (F1 r)
 | size (a r:Nat) (h:cn .f32 r = sizeF (cn .f32 a)):PhiF 90 #[F1 a] (F1 r)
 | lesser (a b r:Nat) (h:cn .f32 r = lesserF (cn .f32 a) (cn .f32 b)):PhiF 221 #[F1 a,F1 b] (F1 r)
 | greater (a b r:Nat) (h:cn .f32 r = greaterF (cn .f32 a) (cn .f32 b)):PhiF 222 #[F1 a,F1 b] (F1 r)
 | short (a b r:Nat) (h:cn .f32 r = shortF (cn .f32 a) (cn .f32 b)):PhiF 219 #[F1 a,F1 b] (F1 r)
 | bulge (a b r:Nat) (h:cn .f32 r = bulgeF (cn .f32 a) (cn .f32 b)):PhiF 224 #[F1 a,F1 b] (F1 r)
 | fold (a b r:Nat) (h:cn .f32 r = foldF (cn .f32 a) (cn .f32 b)):PhiF 262 #[F1 a,F1 b] (F1 r)
 | coords (a b c:Nat):PhiF 133 #[V3 a b c] (V3 a b c)
 | vector (a b c:Nat):PhiF 227 #[V3 a b c] (V3 a b c)
 | less (a b c d e f x y z:Nat) (h1:cn .f32 x = B .sub (cn .f32 a) (cn .f32 d)) (h2:cn .f32 y = B .sub (cn .f32 b) (cn .f32 e)) (h3:cn .f32 z = B .sub (cn .f32 c) (cn .f32 f)):PhiF 178 #[V3 a b c,V3 d e f] (V3 x y z)
 | sine (a r:Nat) (h:cn .f32 r = sineF (cn .f32 a)):PhiF 211 #[F1 a] (F1 r)
end Go.Proofs.YtbiacfkiakddiaaGreat

namespace Go.Proofs.YtbiacfkiakddiaaGreat
open Go.RowKit Go.Fl
/-- A list of ranges. -/
def comp2 (r:Nat × Nat) (j:Nat):Value:=if j = 0 then F1 r.1 else F1 r.2
def vec2 (n:Nat) (O:Nat → Nat × Nat):Array Value:=Array.ofFn (n:=2 * n) fun k => comp2 (O (k.val / 2)) (k.val % 2)
theorem vec2_at {w:World} {g n:Nat} {O:Nat → Nat × Nat} {T:TypeId} (h:w.heap[g]? = some (.cells (vec2 n O) T (0,0))) (i:Nat) (hi:i < n) :
  w.cell? ⟨g,i * 2,none⟩ = some (F1 (O i).1) ∧ w.cell? ⟨g,i * 2 + 1,none⟩ = some (F1 (O i).2):=by
 have key:∀ j,j < 2 → w.cell? ⟨g,i * 2 + j,none⟩ = some (comp2 (O i) j):=fun j hj => by
  have hlt:i * 2 + j < 2 * n:=by omega
  have e1:(i * 2 + j) / 2 = i:=by omega
  have e2:(i * 2 + j) % 2 = j:=by omega
  simp [World.cell?,h,vec2,hlt,e1,e2]
 exact ⟨key 0 (by omega),key 1 (by omega)⟩
end Go.Proofs.YtbiacfkiakddiaaGreat

namespace Go.Proofs.YtbiacfkiakddiaaGreat
open Go.RowKit Go.Fl
/-- Numbers,children,axis,sign of a kind. -/
def ruleT:Nat → Nat × Nat × Bool × Nat
 | 0 => (1,0,false,1) | 1 => (3,0,false,1) | 2 => (2,0,false,1) | 3 => (2,0,false,1) | 4 => (4,0,false,0)
 | 5 => (0,2,false,0) | 6 => (0,2,false,0) | 7 => (0,2,false,0) | 8 => (1,2,false,2)
 | 9 => (3,1,false,0) | 10 => (1,1,false,2) | 11 => (3,1,false,2) | 12 => (1,1,true,0) | 13 => (0,1,true,0) | 14 => (1,1,true,2) | 15 => (1,1,false,0) | 16 => (1,1,false,1)
 | _ => (0,0,false,0)
def kindOk (k:Int):Bool:=decide (0 ≤ k) && decide (k ≤ 16)
def ruleF (k:Int):Nat × Nat × Bool × Nat:=if kindOk k then ruleT k.toNat else (0,0,false,0)
abbrev I64 (n:Nat):Value:=.int .i64 (n:Int)
def ruleV (k:Int):Value:=.agg #[I64 (ruleF k).1,I64 (ruleF k).2.1,.bool (ruleF k).2.2.1,I64 (ruleF k).2.2.2]

set_option maxRecDepth 100000 in
set_option maxHeartbeats 4000000 in
theorem rule_any (k:Int) (w:World):Calls Tryz.prog 155 #[.int .i64 k] w (fun e w' => e = .returned (.tuple #[ruleV k,.bool (kindOk k)]) ∧ Below w.heap.size w w'):=by
 by_cases hk:0 ≤ k ∧ k ≤ 16
 ·have:k = 0 ∨ k = 1 ∨ k = 2 ∨ k = 3 ∨ k = 4 ∨ k = 5 ∨ k = 6 ∨ k = 7 ∨ k = 8 ∨ k = 9 ∨ k = 10 ∨ k = 11 ∨ k = 12 ∨ k = 13 ∨ k = 14 ∨ k = 15 ∨ k = 16:=by omega
  rcases this with h | h | h | h | h | h | h | h | h | h | h | h | h | h | h | h | h
  all_goals
   subst h
   clear hk
   go_enter Tryz.func155,Tryz.ntmps155
   go_wp2_with fail
   refine ⟨rfl,.tuple #[ruleV _,.bool true],?_,rfl,(by repeat' (first | exact Below.refl _ _ | exact Nat.le_refl _ | refine below_drewN ?_ _ | refine Below.alloc ?_ (by simp <;> omega) _ | refine Below.setCell ?_ (by simp <;> omega) _ | refine below_step ?_ (by assumption)))
⟩
   ·simp [results,Tryz.results155,go_sem,List.mapM_cons,Array.mapM_eq_mapM_toList,ruleV,ruleF,kindOk,ruleT,I64];try rfl
 ·have hk':kindOk k = false:=by
   simp only [kindOk,Bool.and_eq_false_iff,decide_eq_false_iff_not];omega
  have hr:ruleV k = .agg #[I64 0,I64 0,.bool false,I64 0]:=by simp only [ruleV,ruleF,hk'];rfl
  rw [hr,hk']
  have hn:∀ c:Nat,c ≤ 16 → k ≠ (c:Int):=fun c hc h => hk (by omega)
  have h0:=hn 0 (by omega);have h1:=hn 1 (by omega);have h2:=hn 2 (by omega);have h3:=hn 3 (by omega);have h4:=hn 4 (by omega);have h5:=hn 5 (by omega);have h6:=hn 6 (by omega);have h7:=hn 7 (by omega);have h8:=hn 8 (by omega);have h9:=hn 9 (by omega);have h10:=hn 10 (by omega);have h11:=hn 11 (by omega);have h12:=hn 12 (by omega);have h13:=hn 13 (by omega);have h14:=hn 14 (by omega);have h15:=hn 15 (by omega);have h16:=hn 16 (by omega)
  clear hn hk hk' hr
  simp only [Int.natCast_zero,Int.natCast_one,Int.cast_ofNat_Int] at h0 h1 h2 h3 h4 h5 h6 h7 h8 h9 h10 h11 h12 h13 h14 h15 h16
  go_enter Tryz.func155,Tryz.ntmps155
  go_wp2_with fail
  exact bodyPost_ret (v:=.tuple #[.agg #[I64 0,I64 0,.bool false,I64 0],.bool false]) (by simp [results,Tryz.results155,go_sem];first | done | rfl) rfl ⟨rfl,(by repeat' (first | exact Below.refl _ _ | exact Nat.le_refl _ | refine below_drewN ?_ _ | refine Below.alloc ?_ (by simp <;> omega) _ | refine Below.setCell ?_ (by simp <;> omega) _ | refine below_step ?_ (by assumption)))⟩

end Go.Proofs.YtbiacfkiakddiaaGreat

namespace Go.Proofs.YtbiacfkiakddiaaGreat
open Go.RowKit Go.Fl
set_option maxHeartbeats 400000 in
theorem s_in_any (a b c:Int) (w:World) :
  Calls Tryz.prog 71 #[.int .i64 a,.int .i64 b,.int .i64 c] w (fun e w' => e = .returned (.bool (decide (b ≤ a) && decide (a ≤ c))) ∧ w = w'):=by
 by_cases h1:b ≤ a
 ·by_cases h2:a ≤ c
  all_goals
   go_enter Tryz.func71,Tryz.ntmps71
   go_wp2_with fail
   go_ret
   exact ⟨by simp [h1,h2],rfl⟩
 ·go_enter Tryz.func71,Tryz.ntmps71
  go_wp2_with fail
  go_ret
  exact ⟨by rw [decide_eq_false (by omega:¬ b ≤ a)];rfl,rfl⟩

theorem s_leaf_any (k:Int) (w:World):Calls Tryz.prog 119 #[.int .i64 k] w (fun e w' => e = .returned (.bool (decide (0 ≤ k) && decide (k ≤ 4))) ∧ w = w'):=by
 go_enter Tryz.func119,Tryz.ntmps119
 go_wp2_with (go_at_call 71;refine (s_in_any _ _ _ _).mono ?_;rintro _ w2 ⟨rfl,rfl⟩)
 go_ret
 exact ⟨rfl,rfl⟩

theorem s_two_any (k:Int) (w:World):Calls Tryz.prog 120 #[.int .i64 k] w (fun e w' => e = .returned (.bool (decide (5 ≤ k) && decide (k ≤ 8))) ∧ w = w'):=by
 go_enter Tryz.func120,Tryz.ntmps120
 go_wp2_with (go_at_call 71;refine (s_in_any _ _ _ _).mono ?_;rintro _ w2 ⟨rfl,rfl⟩)
 go_ret
 exact ⟨rfl,rfl⟩

theorem s_axis_any (k:Int) (w:World):Calls Tryz.prog 186 #[.int .i64 k] w (fun e w' => e = .returned (.bool (decide (12 ≤ k) && decide (k ≤ 14))) ∧ w = w'):=by
 go_enter Tryz.func186,Tryz.ntmps186
 go_wp2_with (go_at_call 71;refine (s_in_any _ _ _ _).mono ?_;rintro _ w2 ⟨rfl,rfl⟩)
 go_ret
 exact ⟨rfl,rfl⟩

set_option maxRecDepth 100000 in
set_option maxHeartbeats 4000000 in
theorem s_count_any (k:Int) (w:World):Calls Tryz.prog 252 #[.int .i64 k] w (fun e w' => e = .returned (I64 (ruleF k).1) ∧ w = w'):=by
 by_cases hk:0 ≤ k ∧ k ≤ 16
 ·have:k = 0 ∨ k = 1 ∨ k = 2 ∨ k = 3 ∨ k = 4 ∨ k = 5 ∨ k = 6 ∨ k = 7 ∨ k = 8 ∨ k = 9 ∨ k = 10 ∨ k = 11 ∨ k = 12 ∨ k = 13 ∨ k = 14 ∨ k = 15 ∨ k = 16:=by omega
  rcases this with h | h | h | h | h | h | h | h | h | h | h | h | h | h | h | h | h
  all_goals
   subst h
   clear hk
   go_enter Tryz.func252,Tryz.ntmps252
   go_wp2_with fail
   go_ret
   exact ⟨rfl,rfl⟩
 ·have hk':kindOk k = false:=by
   simp only [kindOk,Bool.and_eq_false_iff,decide_eq_false_iff_not];omega
  have hr:I64 (ruleF k).1 = .int .i64 0:=by simp only [ruleF,hk'];rfl
  rw [hr]
  have hn:∀ c:Nat,c ≤ 16 → k ≠ (c:Int):=fun c hc h => hk (by omega)
  have h0:=hn 0 (by omega);have h1:=hn 1 (by omega);have h2:=hn 2 (by omega);have h3:=hn 3 (by omega);have h4:=hn 4 (by omega);have h5:=hn 5 (by omega);have h6:=hn 6 (by omega);have h7:=hn 7 (by omega);have h8:=hn 8 (by omega);have h9:=hn 9 (by omega);have h10:=hn 10 (by omega);have h11:=hn 11 (by omega);have h12:=hn 12 (by omega);have h13:=hn 13 (by omega);have h14:=hn 14 (by omega);have h15:=hn 15 (by omega);have h16:=hn 16 (by omega)
  clear hn hk hk' hr
  simp only [Int.natCast_zero,Int.natCast_one,Int.cast_ofNat_Int] at h0 h1 h2 h3 h4 h5 h6 h7 h8 h9 h10 h11 h12 h13 h14 h15 h16
  go_enter Tryz.func252,Tryz.ntmps252
  go_wp2_with fail
  go_ret
  exact ⟨rfl,rfl⟩
end Go.Proofs.YtbiacfkiakddiaaGreat

namespace Go.Proofs.YtbiacfkiakddiaaGreat
open Go.RowKit Go.Fl
set_option maxRecDepth 100000 in
set_option maxHeartbeats 4000000 in
theorem children_any (b o:Nat) (k x y:Int) (w:World) (h0:w.cell? ⟨b,o,none⟩ = some (.int .i64 k)) (h1:w.cell? ⟨b,o + 1,none⟩ = some (.int .i64 x)) (h2:w.cell? ⟨b,o + 2,none⟩ = some (.int .i64 y)) :
  Calls Tryz.prog 93 #[.pointer (some ⟨b,o,none⟩)] w (fun e w' => ∃ g,e = .returned (.slice (some ⟨g,0,none⟩) (ruleF k).2.1 2) ∧ w'.cell? ⟨g,0,none⟩ = some (.int .i64 x) ∧ w'.cell? ⟨g,1,none⟩ = some (.int .i64 y) ∧ w.heap.size ≤ g ∧ Below w.heap.size w w'):=by
 have hc:(ruleF k).2.1 ≤ 2:=by
  unfold ruleF;split
  ·unfold ruleT;split <;> simp
  ·simp
 have hb:b < w.heap.size:=some_lt (a:=⟨b,o,none⟩) (by rw [h0];rfl)
 go_enter Tryz.func93,Tryz.ntmps93
 go_wp2_with (go_at_call 155;refine (rule_any _ _).mono ?_;rintro _ w2 ⟨rfl,hb1⟩;have HL:=lift hb1;simp only [ruleV])
 have W3b:Below w.heap.size w (w2.alloc (.cells #[I64 (ruleF k).1,I64 (ruleF k).2.1,.bool (ruleF k).2.2.1,I64 (ruleF k).2.2.2] 217)):=hb1.alloc hb1.size _
 have hk1:(w2.alloc (.cells #[I64 (ruleF k).1,I64 (ruleF k).2.1,.bool (ruleF k).2.2.1,I64 (ruleF k).2.2.2] 217)).cell? ⟨b,o + 1,none⟩ = some (.int .i64 x):=by rw [lift W3b _ (by rw [h1];rfl)];exact h1
 have hk2:(w2.alloc (.cells #[I64 (ruleF k).1,I64 (ruleF k).2.1,.bool (ruleF k).2.2.1,I64 (ruleF k).2.2.2] 217)).cell? ⟨b,o + 2,none⟩ = some (.int .i64 y):=by rw [lift W3b _ (by rw [h2];rfl)];exact h2
 have hk3:(w2.alloc (.cells #[I64 (ruleF k).1,I64 (ruleF k).2.1,.bool (ruleF k).2.2.1,I64 (ruleF k).2.2.2] 217)).cell? ⟨w2.heap.size,1,none⟩ = some (I64 (ruleF k).2.1):=by simp
 clear hb1 HL
 generalize w2.alloc (.cells #[I64 (ruleF k).1,I64 (ruleF k).2.1,.bool (ruleF k).2.2.1,I64 (ruleF k).2.2.2] 217) = w3 at *
 clear h0 h1 h2
 generalize hnc:(ruleF k).2.1 = nc at *
 have hc':(nc:Int) ≤ 2:=by omega
 have hc0:(0:Int) ≤ nc:=by omega
 have hs3:w2.heap.size < w3.heap.size:=some_lt (a:=⟨w2.heap.size,1,none⟩) (by rw [hk3];rfl)
 have hk4:(w3.alloc (.cells #[.int .i64 x,.int .i64 y] 2)).cell? ⟨w2.heap.size,1,none⟩ = some (I64 nc):=by rw [lift ((Below.refl w3.heap.size w3).alloc (Nat.le_refl _) _) _ (by rw [hk3];rfl)];exact hk3
 go_region
 go_wp2_with fail
 go_ret
 exact ⟨w3.heap.size,by rw [hnc];rfl,by simp,by simp,W3b.size,((W3b.alloc W3b.size _)).drew⟩

theorem last_any (sb so:Nat) (bp:Option Addr) (len cap:Nat) (w:World) (h0:w.cell? ⟨sb,so,none⟩ = some (.slice bp len cap)) :
  Calls Tryz.prog 83 #[.pointer (some ⟨sb,so,none⟩)] w (fun e w' => e = .returned (.int .i64 (wrap64 ((len:Int) - 1))) ∧ w' = w):=by
 go_enter Tryz.func83,Tryz.ntmps83
 go_wp2_with fail
 go_ret
 exact ⟨rfl,rfl⟩
end Go.Proofs.YtbiacfkiakddiaaGreat

namespace Go.Proofs.YtbiacfkiakddiaaGreat
open Go.RowKit Go.Fl
abbrev MarV (a b:Nat) (n:Int):Value:=.agg #[F1 a,F1 b,.int .i64 n]

set_option maxRecDepth 100000 in
set_option maxHeartbeats 1000000 in
theorem to_march (a b:Nat) (n:Int) (w:World) :
  Calls Tryz.prog 102 #[MarV a b n] w (fun e w' => e = .returned (MarV a b n) ∧ Below w.heap.size w w'):=by
 go_enter Tryz.func102,Tryz.ntmps102
 go_wp2_with fail
 exact bodyPost_ret (v:=MarV a b n) (by simp [results,Tryz.results102,go_sem];first | done | exact ⟨rfl,rfl,rfl⟩) rfl ⟨rfl,(by repeat' (first | exact Below.refl _ _ | exact Nat.le_refl _ | refine below_drewN ?_ _ | refine Below.alloc ?_ (by simp <;> omega) _ | refine Below.setCell ?_ (by simp <;> omega) _ | refine below_step ?_ (by assumption)))⟩

theorem cells6 {w:World} {g:Nat} {a b c d e f:Value} {T:TypeId} (h:w.heap[g]? = some (.cells #[a,b,c,d,e,f] T (0,0))) :
  (w.cell? ⟨g,0,none⟩ = some a ∧ w.cell? ⟨g,1,none⟩ = some b ∧ w.cell? ⟨g,2,none⟩ = some c ∧ w.cell? ⟨g,3,none⟩ = some d ∧ w.cell? ⟨g,4,none⟩ = some e ∧ w.cell? ⟨g,5,none⟩ = some f) ∧ w.frozen? ⟨g,0,none⟩ = false ∧ w.frozen? ⟨g,1,none⟩ = false ∧ w.frozen? ⟨g,2,none⟩ = false ∧ w.frozen? ⟨g,3,none⟩ = false ∧ w.frozen? ⟨g,4,none⟩ = false ∧ w.frozen? ⟨g,5,none⟩ = false:=by
 refine ⟨⟨?_,?_,?_,?_,?_,?_⟩,?_,?_,?_,?_,?_,?_⟩ <;> simp [World.cell?,World.frozen?,h]

end Go.Proofs.YtbiacfkiakddiaaGreat
