/-
 Lemmas: E,P,Phi,Qu,Rq,W5.
-/
import Derived.Test.YtbiacfkiakddiaaGreatKaa
import Derived.Test.YtbiacfkiakddiaaGreatKad
import Derived.BigRegion
import Derived.Carry
import Derived.ChangeAlike
import Derived.ChangeSame
import Derived.Deep.AppendLies
import Derived.Deep.DeepCutAuto
import Derived.Deep.Fields
import Derived.Deep.Onto
import Derived.Deep.RegionHeld
import Derived.Deep.Slices
import Derived.KernelRfl
import Derived.Laws.FloatArith
import Derived.Laws.MakeOwn
import Derived.Lib.Hide
import Derived.OpenShut
import Derived.Outline
import Derived.OwnWalk
import Derived.ProofKit
import Derived.RegionTactic
import Derived.Test.YtbiacfkiakddiaaGreatChecked
import Derived.Test.YtbiacfkiakddiaaGreatRows
set_option linter.unusedVariables false
set_option linter.unusedSimpArgs false
namespace Go.Proofs.YtbiacfkiakddiaaGreat
open Go.RowKit
theorem ext_sqrt (args:Array Value) (w:World):(callFunc 284 args).run Tryz.prog w = ((Extern.MathSqrt.sqrt args).run Tryz.prog w).andThen fun v w' => .ok (.value v) w' :=
 run_callFunc_extern Tryz.func284 (by kernel_rfl) (by kernel_rfl) (by kernel_rfl) (by kernel_rfl) args w
theorem ext_rte (args:Array Value) (w:World):(callFunc 255 args).run Tryz.prog w = ((Extern.MathFloor.toIntegral "math.RoundToEven" .even args).run Tryz.prog w).andThen fun v w' => .ok (.value v) w' :=
 run_callFunc_extern Tryz.func255 (by kernel_rfl) (by kernel_rfl) (by kernel_rfl) (by kernel_rfl) args w
theorem ext_trunc (args:Array Value) (w:World):(callFunc 273 args).run Tryz.prog w = ((Extern.MathFloor.toIntegral "math.archTrunc" .zero args).run Tryz.prog w).andThen fun v w' => .ok (.value v) w' :=
 run_callFunc_extern Tryz.func273 (by kernel_rfl) (by kernel_rfl) (by kernel_rfl) (by kernel_rfl) args w
theorem ext_bits (args:Array Value) (w:World):(callFunc 272 args).run Tryz.prog w = ((Extern.MathFloatBits.float64bits args).run Tryz.prog w).andThen fun v w' => .ok (.value v) w' :=
 run_callFunc_extern Tryz.func272 (by kernel_rfl) (by kernel_rfl) (by kernel_rfl) (by kernel_rfl) args w
theorem ext_frombits (args:Array Value) (w:World):(callFunc 202 args).run Tryz.prog w = ((Extern.MathFloatBits.float64frombits args).run Tryz.prog w).andThen fun v w' => .ok (.value v) w' :=
 run_callFunc_extern Tryz.func202 (by kernel_rfl) (by kernel_rfl) (by kernel_rfl) (by kernel_rfl) args w
theorem some_f32:(Tryz.prog.underlying 25).isSome = true:=by rw [Tryz.underlying25,Option.isSome_some]
theorem some_f64:(Tryz.prog.underlying 89).isSome = true:=by rw [Tryz.underlying89,Option.isSome_some]
end Go.Proofs.YtbiacfkiakddiaaGreat

namespace Go.Fl
open Go Go.RowKit
/-- x < y,at words. -/
def ltk (k:FloatKind) (x y:Nat):Bool:=k.format.order x y == some .lt
def gtk (k:FloatKind) (x y:Nat):Bool:=k.format.order x y == some .gt
def eqk (k:FloatKind) (x y:Nat):Bool:=k.format.order x y == some .eq
def lek (k:FloatKind) (x y:Nat):Bool:=k.format.order x y == some .lt || k.format.order x y == some .eq
theorem eqk_cn (k:FloatKind) (x y:Nat):eqk k (cn k x) (cn k y) = eqk k x y:=by unfold eqk;rw [order_cn]

theorem xor_mod (x n:Nat):(x ^^^ 2 ^ n) % 2 ^ n = x % 2 ^ n:=by rw [Nat.xor_mod_two_pow];simp
theorem xor_div (x n:Nat):(x ^^^ 2 ^ n) / 2 ^ n % 2 = (x / 2 ^ n + 1) % 2:=by
 have h:(x ^^^ 2 ^ n).testBit n = !x.testBit n:=by simp [Nat.testBit_xor]
 rw [Nat.testBit_eq_decide_div_mod_eq,Nat.testBit_eq_decide_div_mod_eq] at h
 have h1:(x ^^^ 2 ^ n) / 2 ^ n % 2 < 2:=Nat.mod_lt _ (by decide)
 have h2:x / 2 ^ n % 2 < 2:=Nat.mod_lt _ (by decide)
 by_cases e:x / 2 ^ n % 2 = 1
 ·have:¬ (x ^^^ 2 ^ n) / 2 ^ n % 2 = 1:=by simpa [e] using h
  omega
 ·have:(x ^^^ 2 ^ n) / 2 ^ n % 2 = 1:=by simpa [e] using h
  omega

theorem decode_neg (k:FloatKind) (x:Nat):k.decode (Op.negFloat k x) = (k.decode x).opposite:=by
 have hs:k.format.signWeight = 2 ^ (k.format.exponentBits + k.format.fractionBits):=rfl
 show k.format.read (x ^^^ 2 ^ (k.format.exponentBits + k.format.fractionBits)) = _
 show _ = (k.format.read x).opposite
 unfold Ieee.Format.read
 rw [hs]
 simp only [xor_mod,xor_div]
 have hb:((x / 2 ^ (k.format.exponentBits + k.format.fractionBits) + 1) % 2 == 1) = !(x / 2 ^ (k.format.exponentBits + k.format.fractionBits) % 2 == 1):=by
  rw [Bool.eq_iff_iff];simp;omega
 rw [hb]
 split
 ·rfl
 ·split
  ·rfl
  ·split <;> rfl

/-- -x. -/
def negc (k:FloatKind) (x:Nat):Nat:=cn k (Op.negFloat k x)
theorem negc_cn (k:FloatKind) (x:Nat):negc k (cn k x) = cn k (Op.negFloat k x):=by
 unfold negc
 cases h:(k.decode x).isNaN
 ·rw [cn_of_not h]
 ·rw [cn_of_nan (by rw [decode_neg,opp_nan,isNaN_cn];exact h),cn_of_nan (by rw [decode_neg,opp_nan];exact h)]

theorem cn_zero (k:FloatKind):cn k 0 = 0:=by cases k <;> decide +kernel
theorem ord_r0 (k:FloatKind) (x:Nat):k.format.order (cn k x) 0 = k.format.order x 0:=by have:=order_cn k x 0;rwa [cn_zero] at this
theorem gtk_of {x:Nat} {b:Bool} (h:(FloatKind.f32.format.order x 0 == some .gt) = b):gtk .f32 (cn .f32 x) 0 = b:=by unfold gtk;rw [ord_r0];exact h
theorem ltk_of {x:Nat} {b:Bool} (h:(FloatKind.f32.format.order x 0 == some .lt) = b):ltk .f32 (cn .f32 x) 0 = b:=by unfold ltk;rw [ord_r0];exact h

abbrev B (op:BinOp) (x y:Nat):Nat:=bin op .f32 x y

/-- impl -/
def sizeF (x:Nat):Nat:=if ltk .f32 x 0 then negc .f32 x else x
def lesserF (a b:Nat):Nat:=if ltk .f32 b a then b else a
def greaterF (a b:Nat):Nat:=if gtk .f32 b a then b else a
def shortF (y h:Nat):Nat:=B .sub y (lesserF (greaterF 0 y) h)
def innerF (a b c d e f:Nat):Nat:=B .add (B .add (B .mul a d) (B .mul b e)) (B .mul c f)
def rootF (x:Nat):Nat:=nar (sqr (wid x))
def longF (a b c:Nat):Nat:=rootF (innerF a b c a b c)
def bulgeF (h k:Nat):Nat:=if gtk .f32 h 0 then B .quo (B .mul h h) (B .mul 1082130432 k) else 0
def nearF (x:Nat):Nat:=nar (whole .even (wid x))
def foldF (c s:Nat):Nat:=B .mul (B .mul 1073741824 s) (nearF (B .quo c (B .mul 1073741824 s)))

/-- impl: leaves,mixes. -/
def ballF (x y z r:Nat):Nat:=B .sub (longF x y z) r
def boxF (x y z u v t:Nat):Nat :=
 B .add (longF (greaterF 0 (B .sub (sizeF x) u)) (greaterF 0 (B .sub (sizeF y) v)) (greaterF 0 (B .sub (sizeF z) t)))
  (lesserF 0 (greaterF (greaterF (B .sub (sizeF x) u) (B .sub (sizeF y) v)) (B .sub (sizeF z) t)))
def tubeF (x y z h r:Nat):Nat:=B .sub (longF x (shortF y h) z) r
def ringF (x y z u r:Nat):Nat:=B .sub (longF (B .sub (longF x 0 z) u) y 0) r
def planeF (x y z a b c d:Nat):Nat:=B .sub (innerF x y z a b c) d
def smoothF (a b k:Nat):Nat:=if gtk .f32 (B .sub k (sizeF (B .sub a b))) 0 then B .sub (lesserF a b) (bulgeF (B .sub k (sizeF (B .sub a b))) k) else lesserF a b

abbrev D (op:BinOp) (x y:Nat):Nat:=bin op .f64 x y
def gek (k:FloatKind) (x y:Nat):Bool:=k.format.order x y == some .gt || k.format.order x y == some .eq
/-- |x|,as math.Abs has it. -/
def absW (x:Nat):Nat:=(Go.bits .andNot .u64 (x:Int) 9223372036854775808).toNat
/-- 2 k (2 k + 1),with k = 8 - n. -/
def facN (n:Nat):Int:=2 * (8 - (n:Int)) * (2 * (8 - (n:Int)) + 1)
def polyF (u:Nat):Nat → Nat
 | 0 => 4607182418800017408
 | n + 1 => D .sub 4607182418800017408 (D .quo (D .mul u (polyF u n)) (floatOfInt .f64 (facN n)))
def sin1 (f:Nat):Nat:=if eqk .f64 (whole .zero f) 0 then f else D .sub f (whole .zero f)
def sin2 (f:Nat):Nat:=if ltk .f64 (sin1 f) 0 then D .add (sin1 f) 4607182418800017408 else sin1 f
def sinT (f:Nat):Bool:=gek .f64 (sin2 f) 4602678819172646912
def sin3 (f:Nat):Nat:=if sinT f then D .sub (sin2 f) 4602678819172646912 else sin2 f
def sin4 (f:Nat):Nat:=if gtk .f64 (sin3 f) 4598175219545276416 then D .sub 4602678819172646912 (sin3 f) else sin3 f
def sinZ (f:Nat):Nat:=D .mul (sin4 f) 4618760256179416344
def sinO (f:Nat):Nat:=D .mul (sinZ f) (polyF (D .mul (sinZ f) (sinZ f)) 8)
def sinW (f:Nat):Nat:=if sinT f then negc .f64 (sinO f) else sinO f
def sineF (x:Nat):Nat:=if eqk .f32 (B .sub x x) 0 then (if gek .f64 (absW (wid x)) 4841369599423283200 then 0 else nar (sinW (wid x))) else nanw .f32

theorem fits_nan:fits (nanw .f64):=by
 intro s m e h
 have:=nan_nanw .f64
 rw [h] at this
 cases this
theorem nar_nan:nar (nanw .f64) = nanw .f32:=by unfold nar;rw [nan_nanw];rfl
theorem cn_ofInt (k:FloatKind) (n:Int):cn k (floatOfInt k n) = floatOfInt k n:=cn_enc (d:=.number (n < 0) n.natAbs 0) rfl
theorem cn_c1:cn .f64 4607182418800017408 = 4607182418800017408:=by decide +kernel
theorem cn_c2:cn .f64 4602678819172646912 = 4602678819172646912:=by decide +kernel
theorem cn_c3:cn .f64 4598175219545276416 = 4598175219545276416:=by decide +kernel
theorem cn_c4:cn .f64 4618760256179416344 = 4618760256179416344:=by decide +kernel
theorem cn_c6:cn .f32 1048576000 = 1048576000:=by decide +kernel
theorem ord_c (k:FloatKind) (x:Nat) {c:Nat} (h:cn k c = c):k.format.order (cn k x) c = k.format.order x c:=by have:=order_cn k x c;rwa [h] at this
theorem eqk_ne {k:FloatKind} {x:Nat} {b:Bool} (h:(k.format.order x 0 != some .eq) = b):eqk k (cn k x) 0 = !b:=by unfold eqk;rw [ord_r0,← h,bne,Bool.not_not]
theorem ltk_of' {k:FloatKind} {x:Nat} {b:Bool} (h:(k.format.order x 0 == some .lt) = b):ltk k (cn k x) 0 = b:=by unfold ltk;rw [ord_r0];exact h
theorem gtk_c {k:FloatKind} {x c:Nat} {b:Bool} (hc:cn k c = c) (h:(k.format.order x c == some .gt) = b):gtk k (cn k x) c = b:=by unfold gtk;rw [ord_c k x hc];exact h
theorem gek_c {k:FloatKind} {x c:Nat} (hc:cn k c = c):gek k (cn k x) c = (k.format.order x c == some .gt || k.format.order x c == some .eq):=by unfold gek;rw [ord_c k x hc]

def turn1 (t i j:Nat):Nat:=B .add (B .mul (sineF (B .sub 1048576000 t)) i) (B .mul (sineF t) j)
def turn2 (t i j:Nat):Nat:=B .sub (B .mul (sineF (B .sub 1048576000 t)) j) (B .mul (sineF t) i)
def foldedF (c s:Nat):Nat:=sizeF (B .sub c (foldF c s))

/-- A vector's result. -/
def RetV (x y z:Nat) (w:World) (e:Ending) (w':World):Prop :=
 ∃ a b c,e = .returned (.agg #[.float .f32 a,.float .f32 b,.float .f32 c]) ∧ cn .f32 a = x ∧ cn .f32 b = y ∧ cn .f32 c = z ∧ Below w.heap.size w w'
end Go.Fl

namespace Go.Proofs.YtbiacfkiakddiaaGreat
open Go.RowKit Go.Fl
abbrev V3 (a b c:Nat):Value:=.agg #[.float .f32 a,.float .f32 b,.float .f32 c]
abbrev F1 (a:Nat):Value:=.float .f32 a

inductive PhiF:FuncId → Array Value → Value → Prop
 | long (a b c r:Nat) (h:cn .f32 r = longF (cn .f32 a) (cn .f32 b) (cn .f32 c)):PhiF 250 #[V3 a b c] (F1 r)
 | inner (a b c d e f r:Nat) (h:cn .f32 r = innerF (cn .f32 a) (cn .f32 b) (cn .f32 c) (cn .f32 d) (cn .f32 e) (cn .f32 f)):PhiF 176 #[V3 a b c,V3 d e f] (F1 r)
 | size (a r:Nat) (h:cn .f32 r = sizeF (cn .f32 a)):PhiF 90 #[F1 a] (F1 r)
 | lesser (a b r:Nat) (h:cn .f32 r = lesserF (cn .f32 a) (cn .f32 b)):PhiF 221 #[F1 a,F1 b] (F1 r)
 | greater (a b r:Nat) (h:cn .f32 r = greaterF (cn .f32 a) (cn .f32 b)):PhiF 222 #[F1 a,F1 b] (F1 r)
 | short (a b r:Nat) (h:cn .f32 r = shortF (cn .f32 a) (cn .f32 b)):PhiF 219 #[F1 a,F1 b] (F1 r)
 | bulge (a b r:Nat) (h:cn .f32 r = bulgeF (cn .f32 a) (cn .f32 b)):PhiF 224 #[F1 a,F1 b] (F1 r)
 | fold (a b r:Nat) (h:cn .f32 r = foldF (cn .f32 a) (cn .f32 b)):PhiF 262 #[F1 a,F1 b] (F1 r)
 | coords (a b c:Nat):PhiF 133 #[V3 a b c] (V3 a b c)
 | vector (a b c:Nat):PhiF 227 #[V3 a b c] (V3 a b c)
 | less (a b c d e f x y z:Nat) (h1:cn .f32 x = B .sub (cn .f32 a) (cn .f32 d)) (h2:cn .f32 y = B .sub (cn .f32 b) (cn .f32 e)) (h3:cn .f32 z = B .sub (cn .f32 c) (cn .f32 f)):PhiF 178 #[V3 a b c,V3 d e f] (V3 x y z)
 | sine (a r:Nat) (h:cn .f32 r = sineF (cn .f32 a)):PhiF 211 #[F1 a] (F1 r)
end Go.Proofs.YtbiacfkiakddiaaGreat

namespace Go.Qu
open Go Go.Qr
section
variable {P:Program} {ops:Array Oper} {md:Region.Mode} {C0 C1:World → Prop} {Phi:FuncId → Array Value → Value → Prop} {s:Nat}
/-- One operation;if it may come late,in both classes. -/
def oneL (P:Program) (C0 C1:World → Prop) (Phi:FuncId → Array Value → Value → Prop) (late:Bool) (o:Oper) (a:Act) (next:Act → Prop):Prop :=
 ∃ R:Value → Prop,((∀ w,C0 w → atw P C0 Phi o a w R) ∧ (late = true → ∀ w,C1 w → atw P C1 Phi o a w R)) ∧ ∀ v,R v → next (a.put o.dst v)

/-- The store. -/
def oneS (P:Program) (C0 C1:World → Prop) (o:Oper) (a:Act) (next:Act → Prop):Prop :=
 (∀ w,C0 w → ∃ w',(execOp a.eval o).run P w = .ok .skip w' ∧ C1 w') ∧ next (a.put o.dst undef)

/-- Does operation s wait for operation i,itself or through others? -/
def early (md:Region.Mode) (ops:Array Oper):Nat → Nat → Nat → Bool
 | 0,_,_ => false
 | f + 1,s,i => match ops[s]? with
  | some o => o.after.any fun e => Region.binds md e && (e.on == i || early md ops f e.on i)
  | none => false
theorem early_spec {md:Region.Mode} {ops:Array Oper} {n:Nat} {listed:Array Bool} (inv:HeadInv md ops n listed):∀ (f s i:Nat),early md ops f s i = true → listed.getD s false = true → listed.getD i false = true
 | 0,_,_,h,_ => by cases h
 | f + 1,s,i,h,hs => by
  rw [early] at h
  split at h
  ·rename_i o ho
   obtain ⟨e,he,hb⟩:=Array.any_eq_true'.1 h
   simp only [Bool.and_eq_true,Bool.or_eq_true,beq_iff_eq] at hb
   have h1:=inv.closed s o ho hs e he hb.1
   rcases hb.2 with h2 | h2
   ·rw [← h2];exact h1
   ·exact early_spec inv f _ _ h2 h1
  ·cases h
/-- May it come late? -/
def lateB (md:Region.Mode) (ops:Array Oper) (s i:Nat):Bool:=!early md ops 5 s i

def walkL (P:Program) (md:Region.Mode) (ops:Array Oper) (s:Nat) (C0 C1:World → Prop) (Phi:FuncId → Array Value → Value → Prop) (Q:Act → Prop):Nat → List Oper → Act → Prop
 | _,[],a => Q a
 | k,o :: rest,a => if k = s then oneS P C0 C1 o a (walkL P md ops s C0 C1 Phi Q (k + 1) rest) else oneL P C0 C1 Phi (lateB md ops s k) o a (walkL P md ops s C0 C1 Phi Q (k + 1) rest)

def opAtL (P:Program) (md:Region.Mode) (ops:Array Oper) (s:Nat) (C0 C1:World → Prop) (Phi:FuncId → Array Value → Value → Prop) (i:Nat) (K:Act → Prop) (a:Act):Prop :=
 match ops[i]? with
 | none => K a
 | some o => if i = s then oneS P C0 C1 o a K else oneL P C0 C1 Phi (lateB md ops s i) o a K

theorem oneL_mono {l:Bool} {o:Oper} {a:Act} {K K':Act → Prop} (h:∀ a,K a → K' a) (hh:oneL P C0 C1 Phi l o a K):oneL P C0 C1 Phi l o a K' :=
 let ⟨R,h1,h2⟩:=hh
 ⟨R,h1,fun v hv => h _ (h2 v hv)⟩

theorem opAtL_mono {i:Nat} {a:Act} {K K':Act → Prop} (h:∀ a,K a → K' a) (hh:opAtL P md ops s C0 C1 Phi i K a):opAtL P md ops s C0 C1 Phi i K' a:=by
 cases ho:ops[i]? with
 | none => simp only [opAtL,ho] at hh ⊢;exact h _ hh
 | some o =>
  simp only [opAtL,ho] at hh ⊢
  by_cases hi:i = s
  ·rw [if_pos hi] at hh ⊢;exact ⟨hh.1,h _ hh.2⟩
  ·rw [if_neg hi] at hh ⊢;exact oneL_mono h hh

def YieldsL (P:Program) (C0 C1:World → Prop) (Phi:FuncId → Array Value → Value → Prop) (l:Bool) (o:Oper) (R:Value → Prop) (a:Act):Prop :=
 (∀ w,C0 w → atw P C0 Phi o a w R) ∧ (l = true → ∀ w,C1 w → atw P C1 Phi o a w R)

theorem yieldsL_some {l:Bool} {o:Oper} {R:Value → Prop} {a:Act} {w0:World} (h0:C0 w0) (hg:o.guard = none) (hy:YieldsL P C0 C1 Phi l o R a):∃ v,R v :=
 Yields.some (ops:=#[]) h0 (.inl ⟨by simp [Region.wanted,hg],hy.1⟩)

theorem atw_same {C:World → Prop} {o:Oper} {R:Value → Prop} {a a':Act} {w:World} (h:atw P C Phi o a w R) (he:execOp a'.eval o = execOp a.eval o):atw P C Phi o a' w R:=by
 unfold atw at *
 rw [he]
 exact h

theorem opAtL_put {l:Bool} {j:Nat} {oi oj:Oper} {R:Value → Prop} (hj:ops[j]? = some oj) (hap:oi.apart ops oj = true)
  (hsi:∀ cs b,oi.op ≠ .select cs b) (hsj:∀ cs b,oj.op ≠ .select cs b) {w0:World} (h0:C0 w0) (hgi:oi.guard = none) {K:Act → Prop} {a:Act}
  (hy:YieldsL P C0 C1 Phi l oi R a) (h:∀ v,R v → opAtL P md ops s C0 C1 Phi j K (a.put oi.dst v)) :
  opAtL P md ops s C0 C1 Phi j (fun a' => YieldsL P C0 C1 Phi l oi R a' ∧ ∀ v,R v → K (a'.put oi.dst v)) a:=by
 obtain ⟨h1,h2,h3⟩:=Oper.apart_spec hap
 have keep:∀ u,YieldsL P C0 C1 Phi l oi R (a.put oj.dst u):=fun u =>
  ⟨fun w hw => atw_same (hy.1 w hw) (execOp_put oi hsi a oj.dst u h3),fun hl w hw => atw_same (hy.2 hl w hw) (execOp_put oi hsi a oj.dst u h3)⟩
 obtain ⟨v0,hv0⟩:=yieldsL_some h0 hgi hy
 simp only [opAtL,hj] at h ⊢
 by_cases hjs:j = s
 ·rw [if_pos hjs]
  refine ⟨fun w hw => ?_,keep _,fun v hv => ?_⟩
  ·have hh:=h v0 hv0
   rw [if_pos hjs] at hh
   obtain ⟨w',e,hc⟩:=hh.1 w hw
   exact ⟨w',by rw [← execOp_put oj hsj a oi.dst v0 h1];exact e,hc⟩
  ·have hh:=h v hv
   rw [if_pos hjs] at hh
   rw [← Act.put_comm a v undef h2]
   exact hh.2
 ·rw [if_neg hjs]
  have hx:∀ x:{v // R v},∃ S:Value → Prop,((∀ w,C0 w → atw P C0 Phi oj a w S) ∧ (lateB md ops s j = true → ∀ w,C1 w → atw P C1 Phi oj a w S)) ∧ ∀ u,S u → K ((a.put oi.dst x.1).put oj.dst u):=fun x => by
   have hh:=h x.1 x.2
   rw [if_neg hjs] at hh
   obtain ⟨S,s1,s2⟩:=hh
   exact ⟨S,⟨fun w hw => atw_same (s1.1 w hw) (execOp_put oj hsj a oi.dst x.1 h1).symm,fun hl w hw => atw_same (s1.2 hl w hw) (execOp_put oj hsj a oi.dst x.1 h1).symm⟩,s2⟩
  have hS:=fun x => Classical.choose_spec (hx x)
  refine ⟨fun u => ∀ x:{v // R v},Classical.choose (hx x) u,⟨fun w hw => atw_inter ⟨v0,hv0⟩ fun x => (hS x).1.1 w hw,fun hl w hw => atw_inter ⟨v0,hv0⟩ fun x => (hS x).1.2 hl w hw⟩,fun u hu => ⟨keep u,fun v hv => ?_⟩⟩
  rw [← Act.put_comm a v u h2]
  exact (hS ⟨v,hv⟩).2 u (hu ⟨v,hv⟩)

def anyOrderL (P:Program) (md:Region.Mode) (ops:Array Oper) (s:Nat) (C0 C1:World → Prop) (Phi:FuncId → Array Value → Value → Prop) (n:Nat) (L:Array Bool → Act → Prop):Nat → Array Bool → Act → Prop
 | 0,listed,a => L listed a
 | f + 1,listed,a =>
  Region.ready md ops listed ≠ [] ∧ ∀ i ∈ Region.ready md ops listed,i < n ∧ opAtL P md ops s C0 C1 Phi i (anyOrderL P md ops s C0 C1 Phi n L f (listed.setIfInBounds i true)) a

theorem yieldsL_opAt {i:Nat} {o:Oper} {R:Value → Prop} {a:Act} (hi:ops[i]? = some o) (his:i ≠ s) (hy:YieldsL P C0 C1 Phi (lateB md ops s i) o R a) {K:Act → Prop} (h:∀ v,R v → K (a.put o.dst v)):opAtL P md ops s C0 C1 Phi i K a:=by
 simp only [opAtL,hi,if_neg his]
 exact ⟨R,hy,h⟩

theorem anyOrderL_first {n i:Nat} {oi:Oper} {R:Value → Prop} {L:Array Bool → Act → Prop} (hi:ops[i]? = some oi) (hsel:∀ (j:Nat) (o:Oper) cs b,ops[j]? = some o → o.op ≠ .select cs b)
  (hw:∀ listed,HeadInv md ops n listed → ∀ i,i < n → listed.getD i true = false → ∀ t,n ≤ t → t ∉ Region.ready md ops listed) (hin:i < n) (his:i ≠ s) (hgi:oi.guard = none) {w0:World} (h0:C0 w0)
  (hdone:∀ listed a,L listed a → ∀ j ∈ Region.ready md ops listed,n ≤ j) :
  ∀ (f:Nat) (listed:Array Bool) (a:Act),HeadInv md ops n listed →
   (∀ j oj,ops[j]? = some oj → j ≠ i → listed.getD j true = false → (∀ e ∈ oj.after,Region.binds md e = true → e.on ≠ i) → oi.apart ops oj = true) →
   i ∈ Region.ready md ops listed → YieldsL P C0 C1 Phi (lateB md ops s i) oi R a →
   (∀ v,R v → anyOrderL P md ops s C0 C1 Phi n L f (listed.setIfInBounds i true) (a.put oi.dst v)) → anyOrderL P md ops s C0 C1 Phi n L (f + 1) listed a:=by
 intro f
 induction f with
 | zero =>
  intro listed a inv _ hr hy H
  have hun:=(mem_ready.1 hr).1
  refine ⟨fun h => (by rw [h] at hr;cases hr),fun j hj => ?_⟩
  have hjn:j < n:=Nat.lt_of_not_le fun h => hw _ inv i hin hun j h hj
  refine ⟨hjn,?_⟩
  by_cases hji:j = i
  ·subst hji;exact yieldsL_opAt hi his hy H
  ·obtain ⟨v,hv⟩:=yieldsL_some h0 hgi hy
   exact absurd (hdone _ _ (H v hv) j (ready_mono hj hji)) (by omega)
 | succ f ih =>
  intro listed a inv hfree hr hy H
  have hun:=(mem_ready.1 hr).1
  refine ⟨fun h => (by rw [h] at hr;cases hr),fun j hj => ?_⟩
  have hjn:j < n:=Nat.lt_of_not_le fun h => hw _ inv i hin hun j h hj
  refine ⟨hjn,?_⟩
  by_cases hji:j = i
  ·subst hji;exact yieldsL_opAt hi his hy H
  ·have h1:=fun v hv => ((H v hv).2 j (ready_mono hj hji)).2
   obtain ⟨hjun,oj,hoj,hall⟩:=mem_ready.1 hj
   have hnot:∀ e ∈ oj.after,Region.binds md e = true → e.on ≠ i:=fun e he hb heq => by
    have h1:=hall e he hb
    rw [heq,getD_both hun] at h1
    cases h1
   have h2:=opAtL_put hoj (hfree j oj hoj hji hjun hnot) (fun cs b => hsel i oi cs b hi) (fun cs b => hsel j oj cs b hoj) h0 hgi hy h1
   have hfree':∀ k ok,ops[k]? = some ok → k ≠ i → (listed.setIfInBounds j true).getD k true = false →
     (∀ e ∈ ok.after,Region.binds md e = true → e.on ≠ i) → oi.apart ops ok = true:=fun k ok hk hki hun hno => by
    refine hfree k ok hk hki ?_ hno
    by_cases hjk:j = k
    ·subst hjk;exact hjun
    ·rw [getD_set_ne true hjk] at hun;exact hun
   refine opAtL_mono (fun a' h3 => ih (listed.setIfInBounds j true) a' (inv.set hj hjn) hfree' (ready_mono hr (Ne.symm hji)) h3.1 fun v hv => ?_) h2
   rw [Array.setIfInBounds_comm _ _ hji]
   exact h3.2 v hv

/-- The order of the head can be gone through in the text's order;the store alone is left last. -/
def lexS (md:Region.Mode) (ops:Array Oper) (g:Nat):Nat → Nat → Array Bool → Bool
 | 0,_,_ => false
 | 1,k,listed => decide (Region.ready md ops listed = [k]) && Region.seqB md ops g (k + 1) (listed.setIfInBounds k true)
 | f + 2,k,listed => (Region.ready md ops listed).contains k && Region.free md ops listed k && lexS md ops g (f + 1) (k + 1) (listed.setIfInBounds k true)

theorem anyOrderL_lex {n g:Nat} {Lq:Act → Prop} (hsel:Region.noSelect ops = true) (hw:∀ listed,HeadInv md ops n listed → ∀ i,i < n → listed.getD i true = false → ∀ t,n ≤ t → t ∉ Region.ready md ops listed) {w0:World} (h0:C0 w0)
  (hs:s + 1 = n) (hg:∀ i o,i < n → ops[i]? = some o → o.guard = none) :
  ∀ (l:List Oper) (k:Nat) (listed:Array Bool) (a:Act),(∀ j,j < l.length → l[j]? = ops[k + j]?) → k + l.length = n → HeadInv md ops n listed →
  lexS md ops g l.length k listed = true → walkL P md ops s C0 C1 Phi Lq k l a →
  anyOrderL P md ops s C0 C1 Phi n (fun listed' a' => Region.seqB md ops g n listed' = true ∧ Lq a') l.length listed a
 | [],k,listed,a,_,hk,_,hB,h => by simp [lexS] at hB
 | [o],k,listed,a,hl,hk,inv,hB,h => by
  have ho:ops[k]? = some o:=by simpa using (hl 0 (by simp)).symm
  have hk:k + 1 = n:=by simpa using hk
  have hks:k = s:=by omega
  simp only [List.length_cons,List.length_nil,Nat.zero_add,lexS,Bool.and_eq_true,decide_eq_true_eq] at hB
  refine ⟨by rw [hB.1];simp,fun i hi => ?_⟩
  rw [hB.1] at hi
  have hik:i = k:=by simpa using hi
  subst hik
  refine ⟨by omega,?_⟩
  unfold opAtL
  simp only [ho,if_pos hks]
  simp only [walkL,if_pos hks] at h
  exact ⟨h.1,by rw [← hk];exact hB.2,h.2⟩
 | o :: o2 :: l,k,listed,a,hl,hk,inv,hB,h => by
  have ho:ops[k]? = some o:=by simpa using (hl 0 (by simp)).symm
  simp only [List.length_cons,lexS,Bool.and_eq_true] at hB
  obtain ⟨⟨hr,hf⟩,hB'⟩:=hB
  have hkn:k + 1 < n:=by simp only [List.length_cons] at hk;omega
  have hks:k ≠ s:=by omega
  have hr':k ∈ Region.ready md ops listed:=by simpa using hr
  simp only [walkL,if_neg hks] at h
  obtain ⟨R,hy,hK⟩:=h
  exact anyOrderL_first ho (Region.noSelect_spec hsel) hw (by omega) hks (hg k o (by omega) ho) h0 (fun listed' a' hL => seqB_ready hL.1) (o2 :: l).length listed a inv (Region.free_spec ho hf) hr' hy
   fun v hv => anyOrderL_lex hsel hw h0 hs hg (o2 :: l) (k + 1) _ _ (fun j hj => by have:=hl (j + 1) (by simp at hj ⊢;omega);simpa [Nat.add_assoc,Nat.add_comm 1 j] using this) (by simp only [List.length_cons] at hk ⊢;omega) (inv.set hr' (by omega)) hB' (by simpa only [walkL] using hK v hv)

theorem wpAny_of_anyOrderL {n g:Nat} {L:Array Bool → Act → Prop} {Q':Exit → Act → World → Prop} (hL:∀ listed a w,HeadInv md ops n listed → (if listed.getD s false = true then C1 w else C0 w) → L listed a → wpAny P md ops Q' g listed a w)
  (hg:∀ i o,i < n → ops[i]? = some o → o.guard = none) :
  ∀ (f:Nat) (listed:Array Bool) (a:Act) (w:World),HeadInv md ops n listed → (if listed.getD s false = true then C1 w else C0 w) → anyOrderL P md ops s C0 C1 Phi n L f listed a → wpAny P md ops Q' (f + g) listed a w
 | 0,listed,a,w,inv,hw,h => by rw [Nat.zero_add];exact hL _ _ _ inv hw h
 | f + 1,listed,a,w,inv,hw,h => by
  rw [show f + 1 + g = (f + g) + 1 by omega]
  refine ⟨fun h0 => absurd h0 h.1,fun i hi => ?_⟩
  obtain ⟨hin,hop⟩:=h.2 i hi
  obtain ⟨hun,o,ho,hall⟩:=mem_ready.1 hi
  have hwn:Region.wanted o (yielded ops a.tmps) = true:=by simp [Region.wanted,hg i o hin ho]
  unfold wpOp
  simp only [opAtL,ho] at hop ⊢
  rw [if_pos hwn]
  refine .inl ?_
  by_cases his:i = s
  ·rw [if_pos his] at hop
   have hl0:listed.getD s false = false:=by rw [← his];exact getD_both hun
   rw [hl0,if_neg (by decide)] at hw
   obtain ⟨w',e,hc⟩:=hop.1 w hw
   unfold Oper.wp
   rw [e]
   refine wpAny_of_anyOrderL hL hg f _ _ w' (inv.set hi hin) ?_ hop.2
   have hlt:i < listed.size:=by rw [inv.size];exact (Array.getElem?_eq_some_iff.1 ho).1
   have:(listed.setIfInBounds i true).getD s false = true:=by
    rw [← his,Array.getD_eq_getD_getElem?,Array.getElem?_setIfInBounds_self_of_lt hlt];rfl
   rw [this,if_pos rfl];exact hc
  ·rw [if_neg his] at hop
   obtain ⟨R,hy,hK⟩:=hop
   have hset:(listed.setIfInBounds i true).getD s false = listed.getD s false:=getD_set_ne false his
   by_cases hl:listed.getD s false = true
   ·rw [hl,if_pos rfl] at hw
    have hlate:lateB md ops s i = true:=by
     unfold lateB
     cases hwf:early md ops 5 s i with
     | false => rfl
     | true =>
      have:=early_spec inv 5 s i hwf hl
      rw [getD_both hun] at this
      cases this
    exact wp_of_one (C:=C1) (Phi:=Phi) hw (fun a' w' hw' hk => wpAny_of_anyOrderL hL hg f _ a' w' (inv.set hi hin) (by rw [hset,hl,if_pos rfl];exact hw') hk) ⟨R,hy.2 hlate,hK⟩
   ·rw [if_neg hl] at hw
    exact wp_of_one (C:=C0) (Phi:=Phi) hw (fun a' w' hw' hk => wpAny_of_anyOrderL hL hg f _ a' w' (inv.set hi hin) (by rw [hset,if_neg hl];exact hw') hk) ⟨R,hy.1,hK⟩

/-- THE REGION: the head of n operations,the last of them the store;then the tail. -/
theorem wp_regionL {id:Nat} {Q:Exit → Act → World → Prop} {a:Act} {w:World} {l:List Oper} (n:Nat) (hm:P.follows .mixedOrders = true)
  (hB:(Region.noSelect l.toArray && decide (n + 1 < l.toArray.size) && Region.sinkB .any l.toArray (n + 1) && Region.chainB .any l.toArray (n + 1) && lexS .any l.toArray (l.toArray.size - (n + 1)) (n + 1) 0 (Array.replicate l.toArray.size false)) = true)
  (C0 C1:World → Prop) (Phi:FuncId → Array Value → Value → Prop) (hC:C0 { w with drawn:=w.drawn + 1 }) (hg:((l.take (n + 1)).all fun o => o.guard.isNone) = true)
  (h:walkL P .any l.toArray n C0 C1 Phi (fun a' => ∀ w',C1 w' → wpList P l.toArray Q (l.drop (n + 1)) a' w') 0 (l.take (n + 1)) a):(Code.region id l.toArray true).wp P Q a w:=by
 simp only [Bool.and_eq_true,decide_eq_true_eq] at hB
 obtain ⟨⟨⟨⟨hsel,hn⟩,hs⟩,hc⟩,hlex⟩:=hB
 have hn':n + 1 < l.length:=by simpa using hn
 have htl:(l.take (n + 1)).length = n + 1:=by simp;omega
 have hdl:(l.drop (n + 1)).length = l.toArray.size - (n + 1):=by simp
 have inv0:HeadInv .any l.toArray (n + 1) (Array.replicate l.toArray.size false) :=
  ⟨by simp,fun j oj _ hl => (by rw [getD_replicate_false] at hl;cases hl),fun t _ ht => getD_in (by simpa using ht) (getD_replicate_false _ _)⟩
 have hgg:∀ i o,i < n + 1 → l.toArray[i]? = some o → o.guard = none:=fun i o hi ho => by
  have h1:=List.all_eq_true.1 hg o (List.mem_of_getElem? (i:=i) (by rw [List.getElem?_take,if_pos hi];simpa using ho))
  exact Option.isNone_iff_eq_none.1 h1
 have hw:=fun listed (inv:HeadInv .any l.toArray (n + 1) listed) i hi hun => tail_waits hs hc hn inv _ i rfl hi hun
 have H:=anyOrderL_lex (md:=.any) (g:=l.toArray.size - (n + 1)) hsel hw hC rfl hgg (l.take (n + 1)) 0 _ a (fun j hj => by
  have hj':j < n + 1:=by rw [htl] at hj;exact hj
  simp [hj']) (by simpa using htl) inv0 (by rw [htl];exact hlex) h
 refine wp_region_any hm ?_
 have:=wpAny_of_anyOrderL (Q':=Q) (g:=l.toArray.size - (n + 1)) (fun listed a' w' inv hw' hL => by
  have hall:listed.getD n false = true:=by
   cases hb:listed.getD n false with
   | true => rfl
   | false =>
    exfalso
    have hsz:n < listed.size:=by rw [inv.size];simp;omega
    have hr:n + 1 ∈ Region.ready .any l.toArray listed:=by
     have h2:=hL.1
     rw [show l.toArray.size - (n + 1) = (l.toArray.size - (n + 1) - 1) + 1 by omega] at h2
     simp only [Region.seqB,Bool.and_eq_true,decide_eq_true_eq] at h2
     rw [h2.1];simp
    exact hw listed inv n (by omega) (getD_in hsz hb) (n + 1) (Nat.le_refl _) hr
  rw [hall,if_pos rfl] at hw'
  have:=wpAny_of_seq (md:=.any) (Q':=Q) (l.drop (n + 1)) (n + 1) listed a' w' (fun j => by simp [List.getElem?_drop]) (by rw [hdl];exact hL.1) (hL.2 w' hw')
  rwa [hdl] at this) hgg _ _ _ _ inv0 (by rw [getD_replicate_false,if_neg (by decide)];exact hC) H
 rw [htl,show n + 1 + (l.toArray.size - (n + 1)) = l.toArray.size by omega] at this
 exact this

theorem walkL_step {Q:Act → Prop} {a:Act} {o:Oper} {rest:List Oper} {k:Nat} {b:Bool} (hk:(k == s) = false) (hb:lateB md ops s k = b)
  (h:∀ K:Act → Prop,(∀ a,walkL P md ops s C0 C1 Phi Q (k + 1) rest a → K a) → oneL P C0 C1 Phi b o a K):walkL P md ops s C0 C1 Phi Q k (o :: rest) a:=by
 have hk':k ≠ s:=by simpa using hk
 simp only [walkL,if_neg hk',hb]
 exact h _ fun _ h => h
/-- One of which it need not be known whether it may come late. -/
theorem walkL_any {Q:Act → Prop} {a:Act} {o:Oper} {rest:List Oper} {k:Nat} (hk:(k == s) = false)
  (h:∀ (K:Act → Prop) (b:Bool),(∀ a,walkL P md ops s C0 C1 Phi Q (k + 1) rest a → K a) → oneL P C0 C1 Phi b o a K):walkL P md ops s C0 C1 Phi Q k (o :: rest) a:=by
 have hk':k ≠ s:=by simpa using hk
 simp only [walkL,if_neg hk']
 exact h _ _ fun _ h => h
theorem walkL_store {Q:Act → Prop} {a:Act} {o:Oper} {rest:List Oper} {k:Nat} (hk:(k == s) = true)
  (h:∀ K:Act → Prop,(∀ a,walkL P md ops s C0 C1 Phi Q (k + 1) rest a → K a) → oneS P C0 C1 o a K):walkL P md ops s C0 C1 Phi Q k (o :: rest) a:=by
 have hk':k = s:=by simpa using hk
 simp only [walkL,if_pos hk']
 exact h _ fun _ h => h
theorem walkL_nil {Q:Act → Prop} {a:Act} {k:Nat} (h:Q a):walkL P md ops s C0 C1 Phi Q k [] a:=h

/-- An operation that must come ahead of the store: as elsewhere. -/
theorem oneL_early {o:Oper} {a:Act} {K:Act → Prop} (h:one P C0 Phi o a K):oneL P C0 C1 Phi false o a K:=by
 obtain ⟨R,h1,h2⟩:=h
 exact ⟨R,⟨h1,fun hf => by cases hf⟩,h2⟩
/-- One that yields one value in every world. -/
theorem oneL_det {o:Oper} {a:Act} {K:Act → Prop} {v:Value} {b:Bool} (h:∀ w,(execOp a.eval o).run P w = .ok (.value v) w) (hk:K (a.put o.dst v)):oneL P C0 C1 Phi b o a K:=by
 refine ⟨fun x => x = v,⟨fun w hw => ?_,fun _ w hw => ?_⟩,fun x hx => by rw [hx];exact hk⟩
 all_goals
  unfold atw
  rw [h w]
  exact ⟨⟨hw,Go.RowKit.Below.refl _ _⟩,rfl⟩
end
end Go.Qu

namespace Go.Proofs.YtbiacfkiakddiaaGreat
open Go.RowKit Go.Fl Go.ChangeShapes Go.WideShapes Go.ChangeAt
theorem trodAll_2 {H:Type} {enc:TypeId × Value → H} {P:Program} {w:World} {base:Nat} {spare:Nat → Bool} {held:Bool} {t0 t1:TypeId} {args:Array Value} {ds:List (DataW H)} {ps:List MemPlace} (h:DataW.TrodAll enc P w base spare held [t0,t1] args.toList ds ps) :
  ∃ v0 v1 d0 d1 p0 p1,args = #[v0,v1] ∧ ds = [d0,d1] ∧ ps = p0 ++ (p1 ++ []) ∧ DataW.Trod enc P w base spare held t0 v0 d0 p0 ∧ DataW.Trod enc P w base spare held t1 v1 d1 p1:=by
 obtain ⟨v0,vs0,d0,ds0,p0,q0,hargs,rfl,rfl,hd0,hrest⟩:=trodAll_cons h
 obtain ⟨v1,vs1,d1,ds1,p1,q1,rfl,rfl,rfl,hd1,hrest⟩:=trodAll_cons hrest
 obtain ⟨rfl,rfl,rfl⟩:=trodAll_nil hrest
 exact ⟨v0,v1,d0,d1,p0,p1,by cases args;simp_all,rfl,rfl,hd0,hd1⟩

end Go.Proofs.YtbiacfkiakddiaaGreat

namespace Go.Proofs.YtbiacfkiakddiaaGreat
open Go.RowKit Go.Fl
theorem cells3 {w:World} {g:Nat} {x y z:Value} {T:TypeId} (h:w.heap[g]? = some (.cells #[x,y,z] T (0,0))) :
  w.cell? ⟨g,0,none⟩ = some x ∧ w.cell? ⟨g,1,none⟩ = some y ∧ w.cell? ⟨g,2,none⟩ = some z ∧ w.frozen? ⟨g,0,none⟩ = false ∧ w.frozen? ⟨g,1,none⟩ = false ∧ w.frozen? ⟨g,2,none⟩ = false:=by
 refine ⟨?_,?_,?_,?_,?_,?_⟩ <;> simp [World.cell?,World.frozen?,h]

theorem set3 {w:World} {g:Nat} {a b c:Value} {T:TypeId} (h:w.heap[g]? = some (.cells #[a,b,c] T (0,0))) (x y z:Value) :
  (((w.setCell ⟨g,0,none⟩ x).setCell ⟨g,1,none⟩ y).setCell ⟨g,2,none⟩ z).heap[g]? = some (.cells #[x,y,z] T (0,0)) ∧ Below g w (((w.setCell ⟨g,0,none⟩ x).setCell ⟨g,1,none⟩ y).setCell ⟨g,2,none⟩ z):=by
 refine ⟨?_,?_⟩
 ·simp only [World.setCell,Array.getElem?_modify,if_true,h,Option.map_some]
  rfl
 ·have h1:Below g w (w.setCell ⟨g,0,none⟩ x):=(Below.refl g w).setCell (p:=⟨g,0,none⟩) (Nat.le_refl g) x
  have h2:=h1.setCell (p:=⟨g,1,none⟩) (Nat.le_refl g) y
  exact h2.setCell (p:=⟨g,2,none⟩) (Nat.le_refl g) z

end Go.Proofs.YtbiacfkiakddiaaGreat
