/-
 Lemmas: E,P,Qg.
-/
import Derived.Test.YtbiacfkiakddiaaGreatXaa
import Derived.KernelRfl
import Derived.Test.YtbiacfkiakddiaaGreatChecked
set_option linter.unusedVariables false
set_option linter.unusedSimpArgs false
namespace Go.Proofs.YtbiacfkiakddiaaGreat
open Go.RowKit
theorem zu4 (args:Array Value) (w:World):(callFunc 284 args).run Tryz.prog w=((Extern.MathSqrt.sqrt args).run Tryz.prog w).andThen fun v w'=>.ok (.value v) w' :=
 run_callFunc_extern Tryz.func284 (by kernel_rfl) (by kernel_rfl) (by kernel_rfl) (by kernel_rfl) args w
theorem zfh (args:Array Value) (w:World):(callFunc 255 args).run Tryz.prog w=((Extern.MathFloor.toIntegral "math.RoundToEven" .even args).run Tryz.prog w).andThen fun v w'=>.ok (.value v) w' :=
 run_callFunc_extern Tryz.func255 (by kernel_rfl) (by kernel_rfl) (by kernel_rfl) (by kernel_rfl) args w
theorem zsh (args:Array Value) (w:World):(callFunc 273 args).run Tryz.prog w=((Extern.MathFloor.toIntegral "math.archTrunc" .zero args).run Tryz.prog w).andThen fun v w'=>.ok (.value v) w' :=
 run_callFunc_extern Tryz.func273 (by kernel_rfl) (by kernel_rfl) (by kernel_rfl) (by kernel_rfl) args w
theorem zul (args:Array Value) (w:World):(callFunc 272 args).run Tryz.prog w=((Extern.MathFloatBits.float64bits args).run Tryz.prog w).andThen fun v w'=>.ok (.value v) w' :=
 run_callFunc_extern Tryz.func272 (by kernel_rfl) (by kernel_rfl) (by kernel_rfl) (by kernel_rfl) args w
theorem zaa (args:Array Value) (w:World):(callFunc 202 args).run Tryz.prog w=((Extern.MathFloatBits.float64frombits args).run Tryz.prog w).andThen fun v w'=>.ok (.value v) w' :=
 run_callFunc_extern Tryz.func202 (by kernel_rfl) (by kernel_rfl) (by kernel_rfl) (by kernel_rfl) args w
theorem jx:(Tryz.prog.underlying 25).isSome=true:=by rw[Tryz.underlying25,Option.isSome_some]
theorem xb:(Tryz.prog.underlying 89).isSome=true:=by rw[Tryz.underlying89,Option.isSome_some]
end Go.Proofs.YtbiacfkiakddiaaGreat

namespace Go.Fl
open Go Go.RowKit
def ltk (k:FloatKind) (x y:Nat):Bool:=k.format.order x y==some .lt
def gtk (k:FloatKind) (x y:Nat):Bool:=k.format.order x y==some .gt
def eqk (k:FloatKind) (x y:Nat):Bool:=k.format.order x y==some .eq
def lek (k:FloatKind) (x y:Nat):Bool:=k.format.order x y==some .lt || k.format.order x y==some .eq
theorem zpk (k:FloatKind) (x y:Nat):eqk k (cn k x) (cn k y)=eqk k x y:=by unfold eqk;rw[um]

theorem zw0 (x n:Nat):(x ^^^ 2 ^ n) % 2 ^ n=x % 2 ^ n:=by rw[Nat.xor_mod_two_pow];simp
theorem zvx (x n:Nat):(x ^^^ 2 ^ n) / 2 ^ n % 2=(x / 2 ^ n+1) % 2:=by
 have h:(x ^^^ 2 ^ n).testBit n = !x.testBit n:=by simp[Nat.testBit_xor]
 rw[Nat.testBit_eq_decide_div_mod_eq,Nat.testBit_eq_decide_div_mod_eq]at h
 have h1:(x ^^^ 2 ^ n) / 2 ^ n % 2<2:=Nat.mod_lt _ (by decide)
 have h2:x / 2 ^ n % 2<2:=Nat.mod_lt _ (by decide)
 by_cases e:x / 2 ^ n % 2=1
 ·have:¬ (x ^^^ 2 ^ n) / 2 ^ n % 2=1:=by simpa [e] using h
  omega
 ·have:(x ^^^ 2 ^ n) / 2 ^ n % 2=1:=by simpa [e] using h
  omega

theorem vu (k:FloatKind) (x:Nat):k.decode (Op.negFloat k x)=(k.decode x).opposite:=by
 have hs:k.format.signWeight=2 ^ (k.format.exponentBits+k.format.fractionBits):=rfl
 show k.format.read (x ^^^ 2 ^ (k.format.exponentBits+k.format.fractionBits))=_
 show _=(k.format.read x).opposite
 unfold Ieee.Format.read
 rw[hs]
 simp only[zw0,zvx]
 have hb:((x / 2 ^ (k.format.exponentBits+k.format.fractionBits)+1) % 2==1) = !(x / 2 ^ (k.format.exponentBits+k.format.fractionBits) % 2==1):=by
  rw[Bool.eq_iff_iff];simp;omega
 rw[hb]
 split
 ·rfl
 ·split
  ·rfl
  ·split<;>rfl

def un (k:FloatKind) (x:Nat):Nat:=cn k (Op.negFloat k x)
theorem xo (k:FloatKind) (x:Nat):un k (cn k x)=cn k (Op.negFloat k x):=by
 unfold un
 cases h:(k.decode x).isNaN
 ·rw[xh h]
 ·rw[uz (by rw[vu,za6,jh];exact h),uz (by rw[vu,za6];exact h)]

theorem ye (k:FloatKind):cn k 0=0:=by cases k<;>decide +kernel
theorem ua (k:FloatKind) (x:Nat):k.format.order (cn k x) 0=k.format.order x 0:=by have:=um k x 0;rwa [ye]at this
theorem za9 {x:Nat} {b:Bool} (h:(FloatKind.f32.format.order x 0==some .gt)=b):gtk .f32 (cn .f32 x) 0=b:=by unfold gtk;rw[ua];exact h
theorem zkm {x:Nat} {b:Bool} (h:(FloatKind.f32.format.order x 0==some .lt)=b):ltk .f32 (cn .f32 x) 0=b:=by unfold ltk;rw[ua];exact h

abbrev B (op:BinOp) (x y:Nat):Nat:=bin op .f32 x y

def vp (x:Nat):Nat:=if ltk .f32 x 0 then un .f32 x else x
def yo (a b:Nat):Nat:=if ltk .f32 b a then b else a
def z7 (a b:Nat):Nat:=if gtk .f32 b a then b else a
def zbv (y h:Nat):Nat:=B .sub y (yo (z7 0 y) h)
def zbc (a b c d e f:Nat):Nat:=B .add (B .add (B .mul a d) (B .mul b e)) (B .mul c f)
def zf2 (x:Nat):Nat:=nar (sqr (wid x))
def jo (a b c:Nat):Nat:=zf2 (zbc a b c a b c)
def jk (h k:Nat):Nat:=if gtk .f32 h 0 then B .quo (B .mul h h) (B .mul 1082130432 k) else 0
def j2 (x:Nat):Nat:=nar (whole .even (wid x))
def k5 (c s:Nat):Nat:=B .mul (B .mul 1073741824 s) (j2 (B .quo c (B .mul 1073741824 s)))

def zdg (x y z r:Nat):Nat:=B .sub (jo x y z) r
def zce (x y z u v t:Nat):Nat :=
 B .add (jo (z7 0 (B .sub (vp x) u)) (z7 0 (B .sub (vp y) v)) (z7 0 (B .sub (vp z) t)))
  (yo 0 (z7 (z7 (B .sub (vp x) u) (B .sub (vp y) v)) (B .sub (vp z) t)))
def zt0 (x y z h r:Nat):Nat:=B .sub (jo x (zbv y h) z) r
def zkt (x y z u r:Nat):Nat:=B .sub (jo (B .sub (jo x 0 z) u) y 0) r
def zer (x y z a b c d:Nat):Nat:=B .sub (zbc x y z a b c) d
def zcz (a b k:Nat):Nat:=if gtk .f32 (B .sub k (vp (B .sub a b))) 0 then B .sub (yo a b) (jk (B .sub k (vp (B .sub a b))) k) else yo a b

abbrev D (op:BinOp) (x y:Nat):Nat:=bin op .f64 x y
def gek (k:FloatKind) (x y:Nat):Bool:=k.format.order x y==some .gt || k.format.order x y==some .eq
def zb0 (x:Nat):Nat:=(Go.bits .andNot .u64 (x:Int) 9223372036854775808).toNat
def zwr (n:Nat):Int:=2*(8-(n:Int))*(2*(8-(n:Int))+1)
def zfz (u:Nat):Nat→Nat
 | 0=>4607182418800017408
 | n+1=>D .sub 4607182418800017408 (D .quo (D .mul u (zfz u n)) (floatOfInt .f64 (zwr n)))
def zej (f:Nat):Nat:=if eqk .f64 (whole .zero f) 0 then f else D .sub f (whole .zero f)
def zgu (f:Nat):Nat:=if ltk .f64 (zej f) 0 then D .add (zej f) 4607182418800017408 else zej f
def zcd (f:Nat):Bool:=gek .f64 (zgu f) 4602678819172646912
def zjc (f:Nat):Nat:=if zcd f then D .sub (zgu f) 4602678819172646912 else zgu f
def zj3 (f:Nat):Nat:=if gtk .f64 (zjc f) 4598175219545276416 then D .sub 4602678819172646912 (zjc f) else zjc f
def zb8 (f:Nat):Nat:=D .mul (zj3 f) 4618760256179416344
def zi5 (f:Nat):Nat:=D .mul (zb8 f) (zfz (D .mul (zb8 f) (zb8 f)) 8)
def zf1 (f:Nat):Nat:=if zcd f then un .f64 (zi5 f) else zi5 f
def jr (x:Nat):Nat:=if eqk .f32 (B .sub x x) 0 then (if gek .f64 (zb0 (wid x)) 4841369599423283200 then 0 else nar (zf1 (wid x))) else vd .f32

theorem zln:zco (vd .f64):=by
 intro s m e h
 have:=qu .f64
 rw[h]at this
 cases this
theorem zq6:nar (vd .f64)=vd .f32:=by unfold nar;rw[qu];rfl
theorem zg6 (k:FloatKind) (n:Int):cn k (floatOfInt k n)=floatOfInt k n:=zo6 (d:=.number (n<0) n.natAbs 0) rfl
theorem zil:cn .f64 4607182418800017408=4607182418800017408:=by decide +kernel
theorem zgv:cn .f64 4602678819172646912=4602678819172646912:=by decide +kernel
theorem zqr:cn .f64 4598175219545276416=4598175219545276416:=by decide +kernel
theorem ze0:cn .f64 4618760256179416344=4618760256179416344:=by decide +kernel
theorem xe:cn .f32 1048576000=1048576000:=by decide +kernel
theorem zyv:cn .f32 1073741824=1073741824:=by decide +kernel
theorem zyk:cn .f32 1082130432=1082130432:=by decide +kernel
theorem zvg (k:FloatKind) (x:Nat) {c:Nat} (h:cn k c=c):k.format.order (cn k x) c=k.format.order x c:=by have:=um k x c;rwa [h]at this
theorem zt5 {k:FloatKind} {x:Nat} {b:Bool} (h:(k.format.order x 0 != some .eq)=b):eqk k (cn k x) 0 = !b:=by unfold eqk;rw[ua,← h,bne,Bool.not_not]
theorem zfj {k:FloatKind} {x:Nat} {b:Bool} (h:(k.format.order x 0==some .lt)=b):ltk k (cn k x) 0=b:=by unfold ltk;rw[ua];exact h
theorem zqo {k:FloatKind} {x c:Nat} {b:Bool} (hc:cn k c=c) (h:(k.format.order x c==some .gt)=b):gtk k (cn k x) c=b:=by unfold gtk;rw[zvg k x hc];exact h
theorem gek_c {k:FloatKind} {x c:Nat} (hc:cn k c=c):gek k (cn k x) c=(k.format.order x c==some .gt || k.format.order x c==some .eq):=by unfold gek;rw[zvg k x hc]

def yr (t i j:Nat):Nat:=B .add (B .mul (jr (B .sub 1048576000 t)) i) (B .mul (jr t) j)
def y8 (t i j:Nat):Nat:=B .sub (B .mul (jr (B .sub 1048576000 t)) j) (B .mul (jr t) i)
def y7 (c s:Nat):Nat:=vp (B .sub c (k5 c s))

def ut (x y z:Nat) (w:World) (e:Ending) (w':World):Prop :=
 ∃ a b c,e=.returned (.agg #[.float .f32 a,.float .f32 b,.float .f32 c])∧cn .f32 a=x∧cn .f32 b=y∧cn .f32 c=z∧Below w.heap.size w w'
end Go.Fl

namespace Go.Qg
open Go
section
variable {P:Program} {ops:Array Oper} {md:Region.Mode} {C:World→Prop} {Phi:FuncId→Array Value→Value→Prop} {Gd:Tmp→Value→World→Prop} {ad:List Tmp}
def gd (Gd:Tmp→Value→World→Prop):Option Tmp→Value→World→Prop
 | none,_,_=>True
 | some d,v,w=>Gd d v w

def Rl (P:Program) (C:World→Prop) (Phi:FuncId→Array Value→Value→Prop) (o:Oper) (a:Act) (v:Value):Prop :=
 ∃ w,C w∧match (execOp a.eval o).run P w with
  | .ok (.value u) _=>v=u
  | .ok .skip _=>v=undef
  | .ok (.enter f args) _=>Phi f args v
  | _=>False

def upon (P:Program) (C:World→Prop) (Phi:FuncId→Array Value→Value→Prop) (Gd:Tmp→Value→World→Prop) (ad:List Tmp) (dst:Option Tmp) (w:World):Result Next→Prop
 | .ok (.value u) w'=>(C w'∧Go.RowKit.Below w.heap.size w w')∧gd Gd dst u w'∧∀ d,dst=some d→d∈ad→u=.pointer (some ⟨w.heap.size,0,none⟩)∧w.heap.size<w'.heap.size
 | .ok .skip w'=>(C w'∧Go.RowKit.Below w.heap.size w w')
 | .ok (.enter f args) w'=>(C w'∧Go.RowKit.Below w.heap.size w w')∧Calls P f args w' (fun e w''=>∃ v,e=.returned v∧Phi f args v∧gd Gd dst v w''∧C w''∧Go.RowKit.Below w'.heap.size w' w'')∧∀ d,dst=some d→d ∉ ad
 | _=>False

def sees (ops:Array Oper) (Gd:Tmp→Value→World→Prop) (o:Oper) (a:Act) (w:World):Prop:=∀ d∈o.looksAt ops,Gd d (a.tmps.getD d undef) w

def safe (P:Program) (ops:Array Oper) (C:World→Prop) (Phi:FuncId→Array Value→Value→Prop) (Gd:Tmp→Value→World→Prop) (ad:List Tmp) (o:Oper) (a:Act):Prop :=
 (∃ v,Rl P C Phi o a v)∧∀ w,C w→sees ops Gd o a w→upon P C Phi Gd ad o.dst w ((execOp a.eval o).run P w)

def ok (P:Program) (ops:Array Oper) (C:World→Prop) (Phi:FuncId→Array Value→Value→Prop) (Gd:Tmp→Value→World→Prop) (ad:List Tmp) (o:Oper) (a:Act):Prop :=
 Region.wanted o (yielded ops a.tmps)=true→safe P ops C Phi Gd ad o a

def vals (P:Program) (ops:Array Oper) (C:World→Prop) (Phi:FuncId→Array Value→Value→Prop) (o:Oper) (a:Act) (v:Value):Prop :=
 if Region.wanted o (yielded ops a.tmps) then Rl P C Phi o a v else v=undef

def step (P:Program) (ops:Array Oper) (C:World→Prop) (Phi:FuncId→Array Value→Value→Prop) (Gd:Tmp→Value→World→Prop) (ad:List Tmp) (o:Oper) (a:Act) (K:Act→Prop):Prop :=
 ok P ops C Phi Gd ad o a∧∀ v,vals P ops C Phi o a v→K (a.put o.dst v)

def walk (P:Program) (ops:Array Oper) (C:World→Prop) (Phi:FuncId→Array Value→Value→Prop) (Gd:Tmp→Value→World→Prop) (ad:List Tmp) (Q:Act→Prop):List Oper→Act→Prop
 | [],a=>Q a
 | o::rest,a=>step P ops C Phi Gd ad o a (walk P ops C Phi Gd ad Q rest)

theorem walk_nil {Q:Act→Prop} {a:Act} (h:Q a):walk P ops C Phi Gd ad Q [] a:=h
theorem walk_step {Q:Act→Prop} {a:Act} {o:Oper} {rest:List Oper}
  (h:∀ K:Act→Prop,(∀ a,walk P ops C Phi Gd ad Q rest a→K a)→step P ops C Phi Gd ad o a K):walk P ops C Phi Gd ad Q (o::rest) a :=
 h _ (fun _ h=>h)

theorem one_not {o:Oper} {a:Act} {K:Act→Prop} (hw:Region.wanted o (yielded ops a.tmps)=false) (hk:K (a.put o.dst undef)):step P ops C Phi Gd ad o a K :=
 ⟨fun h=>(by rw[hw]at h;cases h),fun v hv=>(by unfold vals at hv;rw[hw,if_neg (by decide)]at hv;rw[hv];exact hk)⟩

theorem one_det {o:Oper} {a:Act} {K:Act→Prop} {v:Value} {w0:World} (h0:C w0) (had:∀ d,o.dst=some d→d ∉ ad) (hw:Region.wanted o (yielded ops a.tmps)=true) (h:∀ w,C w→(execOp a.eval o).run P w=.ok (.value v) w) (hgd:∀ w,C w→sees ops Gd o a w→gd Gd o.dst v w) (hk:K (a.put o.dst v)):step P ops C Phi Gd ad o a K:=by
 refine⟨fun _=>⟨⟨v,w0,h0,by rw[h w0 h0]⟩,fun w hc hs=>?_⟩,fun u hu=>?_⟩
 ·rw[h w hc];exact⟨⟨hc,Go.RowKit.Below.refl _ _⟩,hgd w hc hs,fun d hd hda=>absurd hda (had d hd)⟩
 ·unfold vals at hu
  rw[if_pos hw]at hu
  obtain⟨w,hc,hv⟩:=hu
  rw[h w hc]at hv
  simp only at hv
  rw[hv];exact hk

theorem one_new {o:Oper} {a:Act} {K:Act→Prop} {w0:World} (b:Obj) (h0:C w0) (hw:Region.wanted o (yielded ops a.tmps)=true) (h:∀ w,C w→(execOp a.eval o).run P w=.ok (.value (.pointer (some ⟨w.heap.size,0,none⟩))) (w.alloc b))
  (hc':∀ w,C w→C (w.alloc b)) (hgd:∀ w,C w→gd Gd o.dst (.pointer (some ⟨w.heap.size,0,none⟩)) (w.alloc b)) (hk:∀ g,K (a.put o.dst (.pointer (some ⟨g,0,none⟩)))):step P ops C Phi Gd ad o a K:=by
 refine⟨fun _=>⟨⟨_,w0,h0,by rw[h w0 h0]⟩,fun w hc hs=>?_⟩,fun u hu=>?_⟩
 ·rw[h w hc];exact⟨⟨hc' w hc,(Go.RowKit.Below.refl _ _).alloc (Nat.le_refl _) _⟩,hgd w hc,fun d hd hda=>⟨rfl,by simp⟩⟩
 ·unfold vals at hu
  rw[if_pos hw]at hu
  obtain⟨w,hc,hv⟩:=hu
  rw[h w hc]at hv
  simp only at hv
  rw[hv];exact hk _

theorem one_call {o:Oper} {a:Act} {K:Act→Prop} {w0:World} (f:FuncId) (args:Array Value) (h0:C w0) (had:∀ d,o.dst=some d→d ∉ ad) (hw:Region.wanted o (yielded ops a.tmps)=true) (h:∀ w,C w→(execOp a.eval o).run P w=.ok (.enter f args) w) (hne:∃ v,Phi f args v)
  (hc:∀ w,C w→sees ops Gd o a w→Calls P f args w (fun e w''=>∃ v,e=.returned v∧Phi f args v∧gd Gd o.dst v w''∧C w''∧Go.RowKit.Below w.heap.size w w'')) (hk:∀ v,Phi f args v→K (a.put o.dst v)):step P ops C Phi Gd ad o a K:=by
 obtain⟨v,hv⟩:=hne
 refine⟨fun _=>⟨⟨v,w0,h0,by rw[h w0 h0];exact hv⟩,fun w hc1 hs=>?_⟩,fun u hu=>?_⟩
 ·rw[h w hc1];exact⟨⟨hc1,Go.RowKit.Below.refl _ _⟩,hc w hc1 hs,had⟩
 ·unfold vals at hu
  rw[if_pos hw]at hu
  obtain⟨w,hc,hv⟩:=hu
  rw[h w hc]at hv
  exact hk _ hv

def opAt (P:Program) (ops:Array Oper) (C:World→Prop) (Phi:FuncId→Array Value→Value→Prop) (Gd:Tmp→Value→World→Prop) (ad:List Tmp) (i:Nat) (K:Act→Prop) (a:Act):Prop :=
 match ops[i]? with
 | none=>K a
 | some o=>step P ops C Phi Gd ad o a K

theorem opAt_mono {i:Nat} {a:Act} {K K':Act→Prop} (h:∀ a,K a→K' a) (hh:opAt P ops C Phi Gd ad i K a):opAt P ops C Phi Gd ad i K' a:=by
 cases ho:ops[i]? with
 | none=>simp only[opAt,ho]at hh ⊢;exact h _ hh
 | some o=>simp only[opAt,ho]at hh ⊢;exact⟨hh.1,fun v hv=>h _ (hh.2 v hv)⟩

theorem vals_some {o:Oper} {a:Act} (h:ok P ops C Phi Gd ad o a):∃ v,vals P ops C Phi o a v:=by
 unfold vals
 by_cases hw:Region.wanted o (yielded ops a.tmps)=true
 ·simp only[if_pos hw];exact (h hw).1
 ·simp only[if_neg hw];exact⟨_,rfl⟩

theorem getD_put (a:Act) (x:Option Tmp) (v:Value) (d:Tmp) (h:x ≠ some d):(a.put x v).tmps.getD d undef=a.tmps.getD d undef:=by
 cases x with
 | none=>rfl
 | some y =>
  have hy:y ≠ d:=fun e=>h (by rw[e])
  simp only[Act.put,Array.getD_eq_getD_getElem?]
  rw[Array.getElem?_setIfInBounds_ne hy]

theorem sees_put (o:Oper) (a:Act) (dst:Option Tmp) (v:Value) (h:∀ d,dst=some d→d ∉ o.looksAt ops) (w:World):sees ops Gd o (a.put dst v) w=sees ops Gd o a w:=by
 have key:∀ d∈o.looksAt ops,(a.put dst v).tmps.getD d undef=a.tmps.getD d undef:=fun d hd=>getD_put a dst v d (fun e=>h d e hd)
 unfold sees
 refine propext ⟨?_,?_⟩
 ·intro hh d hd;rw[← key d hd];exact hh d hd
 ·intro hh d hd;rw[key d hd];exact hh d hd

theorem ok_put (o:Oper) (hs:∀ cs b,o.op ≠ .select cs b) (a:Act) (dst:Option Tmp) (u:Value) (hd:∀ d,dst=some d→d ∉ o.looksAt ops):ok P ops C Phi Gd ad o (a.put dst u)=ok P ops C Phi Gd ad o a:=by
 unfold ok safe Rl
 rw[wanted_put o a dst u hd,execOp_put o hs a dst u hd]
 simp only[sees_put o a dst u hd]

theorem vals_put (o:Oper) (hs:∀ cs b,o.op ≠ .select cs b) (a:Act) (dst:Option Tmp) (u:Value) (hd:∀ d,dst=some d→d ∉ o.looksAt ops) (v:Value):vals P ops C Phi o (a.put dst u) v=vals P ops C Phi o a v:=by
 unfold vals Rl
 rw[wanted_put o a dst u hd,execOp_put o hs a dst u hd]

theorem opAt_put {j:Nat} {oi oj:Oper} (hj:ops[j]? = some oj) (hap:oi.apart ops oj=true)
  (hsi:∀ cs b,oi.op ≠ .select cs b) (hsj:∀ cs b,oj.op ≠ .select cs b) {K:Act→Prop} {a:Act}
  (hy:ok P ops C Phi Gd ad oi a) (h:∀ v,vals P ops C Phi oi a v→opAt P ops C Phi Gd ad j K (a.put oi.dst v)) :
  opAt P ops C Phi Gd ad j (fun a'=>ok P ops C Phi Gd ad oi a'∧∀ v,vals P ops C Phi oi a' v→K (a'.put oi.dst v)) a:=by
 obtain⟨h1,h2,h3⟩:=Oper.apart_spec hap
 obtain⟨v0,hv0⟩:=vals_some hy
 simp only[Qg.opAt,hj]at h ⊢
 refine⟨?_,fun u hu=>⟨?_,fun v hv=>?_⟩⟩
 ·have:=(h v0 hv0).1
  rwa [ok_put oj hsj a oi.dst v0 h1]at this
 ·rw[ok_put oi hsi a oj.dst u h3];exact hy
 ·rw[vals_put oi hsi a oj.dst u h3]at hv
  have:=(h v hv).2 u (by rw[vals_put oj hsj a oi.dst v h1];exact hu)
  rw[← Act.put_comm a v u h2]
  exact this

def anyOrder (P:Program) (md:Region.Mode) (ops:Array Oper) (C:World→Prop) (Phi:FuncId→Array Value→Value→Prop) (Gd:Tmp→Value→World→Prop) (ad:List Tmp) (n:Nat) (L:Array Bool→Act→Prop):Nat→Array Bool→Act→Prop
 | 0,listed,a=>L listed a
 | f+1,listed,a =>
  Region.ready md ops listed ≠ []∧∀ i∈Region.ready md ops listed,i<n∧opAt P ops C Phi Gd ad i (anyOrder P md ops C Phi Gd ad n L f (listed.setIfInBounds i true)) a

theorem anyOrder_first {n i:Nat} {oi:Oper} {L:Array Bool→Act→Prop} (hi:ops[i]? = some oi) (hsel:∀ (j:Nat) (o:Oper) cs b,ops[j]? = some o→o.op ≠ .select cs b)
  (hw:∀ listed,HeadInv md ops n listed→∀ i,i<n→listed.getD i true=false→∀ t,n≤t→t ∉ Region.ready md ops listed) (hin:i<n)
  (hdone:∀ listed a,L listed a→∀ j∈Region.ready md ops listed,n≤j) :
  ∀ (f:Nat) (listed:Array Bool) (a:Act),HeadInv md ops n listed →
   (∀ j oj,ops[j]? = some oj→j ≠ i→listed.getD j true=false→(∀ e∈oj.after,Region.binds md e=true→e.on ≠ i)→oi.apart ops oj=true) →
   i∈Region.ready md ops listed→ok P ops C Phi Gd ad oi a →
   (∀ v,vals P ops C Phi oi a v→anyOrder P md ops C Phi Gd ad n L f (listed.setIfInBounds i true) (a.put oi.dst v))→anyOrder P md ops C Phi Gd ad n L (f+1) listed a:=by
 intro f
 induction f with
 | zero =>
  intro listed a inv _ hr hy H
  have hun:=(mem_ready.1 hr).1
  refine⟨fun h=>(by rw[h]at hr;cases hr),fun j hj=>?_⟩
  have hjn:j<n:=Nat.lt_of_not_le fun h=>hw _ inv i hin hun j h hj
  refine⟨hjn,?_⟩
  by_cases hji:j=i
  ·subst hji;simp only[opAt,hi];exact⟨hy,H⟩
  ·obtain⟨v,hv⟩:=vals_some hy
   exact absurd (hdone _ _ (H v hv) j (ready_mono hj hji)) (by omega)
 | succ f ih =>
  intro listed a inv hfree hr hy H
  have hun:=(mem_ready.1 hr).1
  refine⟨fun h=>(by rw[h]at hr;cases hr),fun j hj=>?_⟩
  have hjn:j<n:=Nat.lt_of_not_le fun h=>hw _ inv i hin hun j h hj
  refine⟨hjn,?_⟩
  by_cases hji:j=i
  ·subst hji;simp only[opAt,hi];exact⟨hy,H⟩
  ·have h1:=fun v hv=>((H v hv).2 j (ready_mono hj hji)).2
   obtain⟨hjun,oj,hoj,hall⟩:=mem_ready.1 hj
   have hnot:∀ e∈oj.after,Region.binds md e=true→e.on ≠ i:=fun e he hb heq=>by
    have h1:=hall e he hb
    rw[heq,getD_both hun]at h1
    cases h1
   have h2:=opAt_put hoj (hfree j oj hoj hji hjun hnot) (fun cs b=>hsel i oi cs b hi) (fun cs b=>hsel j oj cs b hoj) hy h1
   have hfree':∀ k ok,ops[k]? = some ok→k ≠ i→(listed.setIfInBounds j true).getD k true=false →
     (∀ e∈ok.after,Region.binds md e=true→e.on ≠ i)→oi.apart ops ok=true:=fun k ok hk hki hun hno=>by
    refine hfree k ok hk hki ?_ hno
    by_cases hjk:j=k
    ·subst hjk;exact hjun
    ·rw[getD_set_ne true hjk]at hun;exact hun
   refine opAt_mono (fun a' h3=>ih (listed.setIfInBounds j true) a' (inv.set hj hjn) hfree' (ready_mono hr (Ne.symm hji)) h3.1 fun v hv=>?_) h2
   rw[Array.setIfInBounds_comm _ _ hji]
   exact h3.2 v hv

theorem anyOrder_lex {n g:Nat} {Lq:Act→Prop} (hsel:Region.noSelect ops=true) (hw:∀ listed,HeadInv md ops n listed→∀ i,i<n→listed.getD i true=false→∀ t,n≤t→t ∉ Region.ready md ops listed) :
  ∀ (l:List Oper) (k:Nat) (listed:Array Bool) (a:Act),(∀ j,j<l.length→l[j]? = ops[k+j]?)→k+l.length=n→HeadInv md ops n listed →
  Region.lexHead md ops g l.length k listed=true→walk P ops C Phi Gd ad Lq l a →
  anyOrder P md ops C Phi Gd ad n (fun listed' a'=>Region.seqB md ops g n listed'=true∧Lq a') l.length listed a
 | [],k,listed,a,_,hk,_,hB,h=>by
  obtain rfl:k=n:=by simpa using hk
  exact⟨by simpa [Region.lexHead] using hB,h⟩
 | o::l,k,listed,a,hl,hk,inv,hB,h=>by
  have ho:ops[k]? = some o:=by simpa using (hl 0 (by simp)).symm
  simp only[List.length_cons,Region.lexHead,Bool.and_eq_true]at hB
  obtain⟨⟨hr,hf⟩,hB'⟩:=hB
  have hkn:k<n:=by simp only[List.length_cons]at hk;omega
  have hr':k∈Region.ready md ops listed:=by simpa using hr
  obtain⟨hy,hK⟩:=h
  exact anyOrder_first ho (Region.noSelect_spec hsel) hw hkn (fun listed' a' hL=>seqB_ready hL.1) l.length listed a inv (Region.free_spec ho hf) hr' hy
   fun v hv=>anyOrder_lex hsel hw l (k+1) _ _ (fun j hj=>by have:=hl (j+1) (by simp;omega);simpa [Nat.add_assoc,Nat.add_comm 1 j] using this) (by simp only[List.length_cons]at hk;omega) (inv.set hr' hkn) hB' (hK v hv)

def E (Gd:Tmp→Value→World→Prop) (ad:List Tmp) (a:Act) (w:World):Prop:=(∀ d,Gd d (a.tmps.getD d undef) w)∧(∀ d∈ad,∀ g,a.tmps.getD d undef=.pointer (some ⟨g,0,none⟩)→g<w.heap.size)∧∀ d∈ad,∀ e∈ad,d ≠ e→∀ g,a.tmps.getD d undef=.pointer (some ⟨g,0,none⟩)→a.tmps.getD e undef ≠ .pointer (some ⟨g,0,none⟩)

theorem getD_put_same (a:Act) (d:Tmp) (v:Value):(a.put (some d) v).tmps.getD d undef=v∨(a.put (some d) v).tmps.getD d undef=undef:=by
 by_cases hlt:d<a.tmps.size
 ·left
  simp only[Act.put,Array.getD_eq_getD_getElem?]
  rw[Array.getElem?_setIfInBounds_self_of_lt hlt];rfl
 ·right
  simp only[Act.put,Array.getD_eq_getD_getElem?]
  rw[Array.getElem?_eq_none (by rw[Array.size_setIfInBounds];exact Nat.le_of_not_lt hlt)];rfl

def Lasts (Gd:Tmp→Value→World→Prop):Prop:=(∀ d v w w',Gd d v w→Go.RowKit.Below w.heap.size w w'→Gd d v w')∧∀ d w,Gd d undef w

theorem E_put (hL:Lasts Gd) {a:Act} {w w':World} {dst:Option Tmp} {v:Value} (h:E Gd ad a w) (hb:Go.RowKit.Below w.heap.size w w') (hg:gd Gd dst v w') (hp:∀ d,dst=some d→d∈ad→v=undef∨(v=.pointer (some ⟨w.heap.size,0,none⟩)∧w.heap.size<w'.heap.size)):E Gd ad (a.put dst v) w':=by
 cases dst with
 | none=>exact⟨fun d=>hL.1 _ _ _ _ (h.1 d) hb,fun d hd g hv=>Nat.lt_of_lt_of_le (h.2.1 d hd g hv) hb.size,h.2.2⟩
 | some y =>
  have hne:∀ d,y ≠ d→(a.put (some y) v).tmps.getD d undef=a.tmps.getD d undef:=fun d hd=>getD_put _ _ _ _ (by intro e;injection e with e;exact hd e)
  have hs:=getD_put_same a y v
  have hnp:∀ g,undef ≠ Value.pointer (some ⟨g,0,none⟩):=fun g h=>by cases h
  have hy:y∈ad→(a.put (some y) v).tmps.getD y undef=undef∨((a.put (some y) v).tmps.getD y undef=.pointer (some ⟨w.heap.size,0,none⟩)∧w.heap.size<w'.heap.size):=fun hd=>by
   rcases hs with e|e
   ·rcases hp y rfl hd with h1|⟨h1,h2⟩
    ·left;rw[e,h1]
    ·right;exact⟨by rw[e,h1],h2⟩
   ·left;exact e
  refine⟨fun d=>?_,fun d hd g hv=>?_,fun d hd e he hde g hv hv'=>?_⟩
  ·by_cases hyd:y=d
   ·subst hyd
    rcases hs with e|e
    ·rw[e];exact hg
    ·rw[e];exact hL.2 _ _
   ·rw[hne d hyd];exact hL.1 _ _ _ _ (h.1 d) hb
  ·by_cases hyd:y=d
   ·subst hyd
    rcases hy hd with e|⟨e,e2⟩
    ·rw[e]at hv;exact absurd hv (hnp g)
    ·rw[e]at hv;injection hv with hv;injection hv with hv;injection hv with hv;omega
   ·rw[hne d hyd]at hv;exact Nat.lt_of_lt_of_le (h.2.1 d hd g hv) hb.size
  ·by_cases hyd:y=d
   ·subst hyd
    rw[hne e hde]at hv'
    rcases hy hd with e1|⟨e1,e2⟩
    ·rw[e1]at hv;exact absurd hv (hnp g)
    ·rw[e1]at hv;injection hv with hv;injection hv with hv;injection hv with hv
     have:=h.2.1 e he g hv'
     omega
   ·rw[hne d hyd]at hv
    by_cases hye:y=e
    ·subst hye
     rcases hy he with e1|⟨e1,e2⟩
     ·rw[e1]at hv';exact absurd hv' (hnp g)
     ·rw[e1]at hv';injection hv' with hv';injection hv' with hv';injection hv' with hv'
      have:=h.2.1 d hd g hv
      omega
    ·rw[hne e hye]at hv'
     exact h.2.2 d hd e he hde g hv hv'

theorem wp_of_safe (hL:Lasts Gd) {o:Oper} {a:Act} {K:Act→Prop} {K':Act→World→Prop} {Q':Exit→Act→World→Prop} {w:World} (hw:C w) (hE:E Gd ad a w) (h:∀ a w',C w'→E Gd ad a w'→K a→K' a w')
  (hy:safe P ops C Phi Gd ad o a) (hk:∀ v,Rl P C Phi o a v→K (a.put o.dst v)):o.wp P a w K' Q':=by
 have h3:=hy.2 w hw (fun d _=>hE.1 d)
 have hk':∀ v,(match (execOp a.eval o).run P w with
  | .ok (.value u) _=>v=u
  | .ok .skip _=>v=undef
  | .ok (.enter f args) _=>Phi f args v
  | _=>False)→K (a.put o.dst v):=fun v hv=>hk v ⟨w,hw,hv⟩
 clear hk
 unfold Oper.wp
 generalize (execOp a.eval o).run P w=r at h3 hk' ⊢
 cases r with
 | ok n w' =>
  cases n with
  | value u=>exact h _ _ h3.1.1 (E_put hL hE h3.1.2 h3.2.1 (fun d hd hda=>.inr (h3.2.2 d hd hda))) (hk' _ rfl)
  | skip=>exact h _ _ h3.1 (E_put hL hE h3.2 (by cases o.dst with|none=>trivial|some d=>exact hL.2 _ _) (fun d hd hda=>.inl rfl)) (hk' _ rfl)
  | enter f args=>exact h3.2.1.mono fun e w'' ⟨v,he,hp,hg,hc,hl⟩=>by subst he;exact h _ _ hc (E_put hL hE (h3.1.2.trans (hl.mono h3.1.2.size)) hg (fun d hd hda=>absurd hda (h3.2.2 d hd))) (hk' v hp)
  | _=>exact h3.elim
 | halt x w'=>exact h3.elim

theorem wpAny_of_anyOrder (hLa:Lasts Gd) {n g:Nat} {L:Array Bool→Act→Prop} {Q':Exit→Act→World→Prop} (hL:∀ listed a w,C w→E Gd ad a w→L listed a→wpAny P md ops Q' g listed a w) :
  ∀ (f:Nat) (listed:Array Bool) (a:Act) (w:World),C w→E Gd ad a w→anyOrder P md ops C Phi Gd ad n L f listed a→wpAny P md ops Q' (f+g) listed a w
 | 0,listed,a,w,hw,he,h=>by rw[Nat.zero_add];exact hL _ _ _ hw he h
 | f+1,listed,a,w,hw,he,h=>by
  rw[show f+1+g=(f+g)+1 by omega]
  refine⟨fun h0=>absurd h0 h.1,fun i hi=>?_⟩
  obtain⟨hin,hop⟩:=h.2 i hi
  unfold wpOp
  cases ho:ops[i]? with
  | none =>
   obtain⟨_,o,ho',_⟩:=mem_ready.1 hi
   rw[ho]at ho';cases ho'
  | some o =>
   simp only[opAt,ho]at hop ⊢
   obtain⟨hy,hk⟩:=hop
   by_cases hwn:Region.wanted o (yielded ops a.tmps)=true
   ·rw[if_pos hwn]
    exact .inl (wp_of_safe hLa hw he (fun a' w' hw' he' h'=>wpAny_of_anyOrder hLa hL f _ a' w' hw' he' h') (hy hwn) (fun v hv=>hk v (by unfold vals;rw[if_pos hwn];exact hv)))
   ·rw[if_neg hwn]
    refine wpAny_of_anyOrder hLa hL f _ _ w hw (E_put hLa he (Go.RowKit.Below.refl _ _) (by cases o.dst with|none=>trivial|some d=>exact hLa.2 _ _) (fun d hd hda=>.inl rfl)) (hk undef ?_)
    unfold vals;rw[if_neg hwn]

theorem wp_gd {id:Nat} {Q:Exit→Act→World→Prop} {a:Act} {w:World} {l:List Oper} (n:Nat) (hm:P.follows .mixedOrders=true) (hB:Region.lexTailB .any l.toArray n=true)
  (Phi:FuncId→Array Value→Value→Prop) (Gd:Tmp→Value→World→Prop) (ad:List Tmp) (hLa:Lasts Gd) (hE:E Gd ad a w)
  (h:Go.RowKit.Below w.heap.size w { w with drawn:=w.drawn+1 }→walk P l.toArray (fun w'=>Go.RowKit.Below w.heap.size w w') Phi Gd ad (fun a'=>∀ w',Go.RowKit.Below w.heap.size w w'→E Gd ad a' w'→wpList P l.toArray Q (l.drop n) a' w') (l.take n) a):(Code.region id l.toArray true).wp P Q a w:=by
 have hb0:Go.RowKit.Below w.heap.size w { w with drawn:=w.drawn+1 }:=(Go.RowKit.Below.refl _ _).drew
 have h:=h hb0
 simp only[Region.lexTailB,Bool.and_eq_true,decide_eq_true_eq]at hB
 obtain⟨⟨⟨⟨hsel,hn⟩,hs⟩,hc⟩,hlex⟩:=hB
 have hn':n<l.length:=by simpa using hn
 have htl:(l.take n).length=n:=by simp;omega
 have hdl:(l.drop n).length=l.toArray.size-n:=by simp
 have inv0:HeadInv .any l.toArray n (Array.replicate l.toArray.size false) :=
  ⟨by simp,fun j oj _ hl=>(by rw[getD_replicate_false]at hl;cases hl),fun t _ ht=>getD_in (by simpa using ht) (getD_replicate_false _ _)⟩
 have H:=anyOrder_lex (md:=.any) (g:=l.toArray.size-n) hsel (fun listed inv i hi hun=>tail_waits hs hc hn inv _ i rfl hi hun) (l.take n) 0 _ a (fun j hj=>by
  have hj':j<n:=by rw[htl]at hj;exact hj
  simp[hj']) (by simpa using htl) inv0 (by rw[htl];exact hlex) h
 refine wp_region_any hm ?_
 have:=wpAny_of_anyOrder (Q':=Q) hLa (g:=l.toArray.size-n) (fun listed a' w' hw' he hL=>by
  have:=wpAny_of_seq (md:=.any) (Q':=Q) (l.drop n) n listed a' w' (fun j=>by simp[List.getElem?_drop]) (by rw[hdl];exact hL.1) (hL.2 w' hw' he)
  rwa [hdl]at this) _ _ _ _ hb0 ⟨fun d=>hLa.1 _ _ _ _ (hE.1 d) hb0,hE.2.1,hE.2.2⟩ H
 rw[htl,show n+(l.toArray.size-n)=l.toArray.size by omega]at this
 exact this

theorem wp_gd_all {id:Nat} {Q:Exit→Act→World→Prop} {a:Act} {w:World} {l:List Oper} (hm:P.follows .mixedOrders=true)
  (hB:(Region.noSelect l.toArray && Region.lexHead .any l.toArray 0 l.length 0 (Array.replicate l.toArray.size false))=true)
  (Phi:FuncId→Array Value→Value→Prop) (Gd:Tmp→Value→World→Prop) (ad:List Tmp) (hLa:Lasts Gd) (hE:E Gd ad a w)
  (h:Go.RowKit.Below w.heap.size w { w with drawn:=w.drawn+1 }→walk P l.toArray (fun w'=>Go.RowKit.Below w.heap.size w w') Phi Gd ad (fun a'=>∀ w',Go.RowKit.Below w.heap.size w w'→E Gd ad a' w'→Q .normal a' w') l a):(Code.region id l.toArray true).wp P Q a w:=by
 have hb0:Go.RowKit.Below w.heap.size w { w with drawn:=w.drawn+1 }:=(Go.RowKit.Below.refl _ _).drew
 have h:=h hb0
 simp only[Bool.and_eq_true]at hB
 obtain⟨hsel,hlex⟩:=hB
 have inv0:HeadInv .any l.toArray l.length (Array.replicate l.toArray.size false) :=
  ⟨by simp,fun j oj _ hl=>(by rw[getD_replicate_false]at hl;cases hl),fun t _ ht=>getD_in (by simpa using ht) (getD_replicate_false _ _)⟩
 have H:=anyOrder_lex (md:=.any) (g:=0) hsel (fun listed inv i hi hun t ht hr=>by
  obtain⟨_,o,ho,_⟩:=mem_ready.1 hr
  have:=(Array.getElem?_eq_some_iff.1 ho).1
  simp at this
  omega) l 0 _ a (fun j hj=>by simp) (by simp) inv0 hlex h
 refine wp_region_any hm ?_
 have:=wpAny_of_anyOrder (Q':=Q) hLa (g:=0) (fun listed a' w' hw' he hL=>(by
  refine⟨by have:=hL.1;simpa [Region.seqB] using this,hL.2 w' hw' he⟩:wpAny P .any l.toArray Q 0 listed a' w')) _ _ _ _ hb0 ⟨fun d=>hLa.1 _ _ _ _ (hE.1 d) hb0,hE.2.1,hE.2.2⟩ H
 simpa using this

def zks (e:Edge):Edge:=match e.ground with|.textOnly _=>{ e with ground:=.data }|_=>e
def qm (o:Oper):Oper:={ o with after:=o.after.map zks }
def zkz (e:Edge):Bool:=match e.ground with|.textOnly _=>true|_=>false
def zff (o:Oper):Bool:=match o.op with|.extract _ _=>true|_=>false

def zen (ops:Array Oper):Bool :=
 Region.noSelect ops && (List.range ops.size).all fun j=>match ops[j]? with
  | none=>true
  | some oj=>oj.after.all fun e=>!zkz e || match ops[e.on]? with
   | none=>false
   | some oi=>zff oi && oi.guard.isNone && (oi.after.all fun x=>!zkz x && (!Region.binds .any x || oj.after.any fun y=>Region.binds .any y && y.on==x.on)) &&
    (List.range ops.size).all fun k=>k==e.on || (oi.after.any fun x=>Region.binds .any x && x.on==k) || match ops[k]? with
     | none=>true
     | some ok=>(ok.after.any fun x=>Region.binds .any x && x.on==e.on) || oi.apart ops ok

theorem zgr (e:Edge):(zks e).on=e.on:=by unfold zks;split<;>rfl
theorem zdj (e:Edge):Region.binds .any (zks e)=(zkz e || Region.binds .any e):=by
 obtain⟨on,g⟩:=e
 cases g<;>rfl
theorem zbj (i:Nat):(ops.map qm)[i]? = (ops[i]?).map qm:=by simp
theorem zae (tmps:Array Value):yielded (ops.map qm) tmps=yielded ops tmps:=by
 funext j
 unfold yielded
 rw[zbj]
 cases ops[j]?<;>rfl
theorem zvn {Q:Exit→Act→World→Prop} (j:Nat) (K:Act→World→Prop) (a:Act) (w:World):wpOp P (ops.map qm) Q j K a w=wpOp P ops Q j K a w:=by
 unfold wpOp
 rw[zbj,zae]
 cases ops[j]?<;>rfl

theorem zgy {listed:Array Bool} {j:Nat} (h:j∈Region.ready .any (ops.map qm) listed):j∈Region.ready .any ops listed:=by
 obtain⟨h0,o,ho,hall⟩:=mem_ready.1 h
 rw[zbj]at ho
 cases hj:ops[j]? with
 | none=>rw[hj]at ho;cases ho
 | some oj =>
  rw[hj]at ho
  obtain rfl:qm oj=o:=Option.some.inj ho
  refine mem_ready.2 ⟨h0,oj,hj,fun e he hb=>?_⟩
  have:=hall (zks e) (Array.mem_map.2 ⟨e,he,rfl⟩) (by rw[zdj,hb];simp)
  rwa [zgr]at this

theorem zgw (hB:zen ops=true) {listed:Array Bool} (hsz:listed.size=ops.size) {j:Nat} (h:j∈Region.ready .any ops listed) (hn:j ∉ Region.ready .any (ops.map qm) listed) :
  ∃ i oi,ops[i]? = some oi∧zff oi=true∧oi.guard=none∧i∈Region.ready .any (ops.map qm) listed∧∀ k ok,ops[k]? = some ok→k ≠ i→listed.getD k true=false→(∀ e∈ok.after,Region.binds .any e=true→e.on ≠ i)→oi.apart ops ok=true:=by
 obtain⟨h0,oj,hj,hall⟩:=mem_ready.1 h
 simp only[zen,Bool.and_eq_true,List.all_eq_true,List.mem_range]at hB
 obtain⟨hsel,hB⟩:=hB
 have hjl:j<ops.size:=(Array.getElem?_eq_some_iff.1 hj).1
 have h1:=hB j hjl
 rw[hj]at h1
 simp only[Array.all_eq_true_iff_forall_mem]at h1
 have:∃ e∈oj.after,zkz e=true∧listed.getD e.on false=false:=by
  refine Classical.byContradiction fun hne=>hn (mem_ready.2 ⟨h0,qm oj,by rw[zbj,hj];rfl,fun e he hb=>?_⟩)
  obtain⟨e',he',rfl⟩:=Array.mem_map.1 he
  rw[zgr]
  rw[zdj,Bool.or_eq_true]at hb
  rcases hb with hb|hb
  ·cases hl:listed.getD e'.on false with
   | true=>rfl
   | false=>exact absurd ⟨e',he',hb,hl⟩ hne
  ·exact hall e' he' hb
 obtain⟨e,he,hs,hl⟩:=this
 have h2:=h1 e he
 rw[hs]at h2
 cases hi:ops[e.on]? with
 | none=>rw[hi]at h2;simp at h2
 | some oi =>
  rw[hi]at h2
  simp only[Bool.not_true,Bool.false_or,Bool.and_eq_true,Array.all_eq_true_iff_forall_mem,List.all_eq_true,List.mem_range]at h2
  obtain⟨⟨⟨hp,hg⟩,hd⟩,hf⟩:=h2
  have hil:e.on<ops.size:=(Array.getElem?_eq_some_iff.1 hi).1
  have hun:listed.getD e.on true=false:=by
   have hlt:e.on<listed.size:=by omega
   simp[hlt]at hl ⊢;exact hl
  have hdone:∀ x∈oi.after,Region.binds .any x=true→listed.getD x.on false=true:=fun x hx hb=>by
   have h3:=hd x hx
   rw[hb]at h3
   simp only[Bool.not_true,Bool.false_or,Bool.and_eq_true]at h3
   obtain⟨y,hy,hyb⟩:=Array.any_eq_true'.1 h3.2
   rw[Bool.and_eq_true,beq_iff_eq]at hyb
   rw[← hyb.2];exact hall y hy hyb.1
  refine⟨e.on,oi,hi,hp,Option.isNone_iff_eq_none.1 hg,mem_ready.2 ⟨hun,qm oi,by rw[zbj,hi];rfl,fun x hx hb=>?_⟩,fun k ok hk hki hku hno=>?_⟩
  ·obtain⟨x',hx',rfl⟩:=Array.mem_map.1 hx
   rw[zgr]
   rw[zdj]at hb
   have h3:=hd x' hx'
   have hns:zkz x'=false:=by simpa using h3.1
   rw[hns,Bool.false_or]at hb
   exact hdone x' hx' hb
  ·have h4:=hf k (Array.getElem?_eq_some_iff.1 hk).1
   rw[hk]at h4
   simp only[Bool.or_eq_true,beq_iff_eq]at h4
   rcases h4 with (h4|h4)|h4|h4
   ·exact absurd h4 hki
   ·obtain⟨x,hx,hxb⟩:=Array.any_eq_true'.1 h4
    rw[Bool.and_eq_true,beq_iff_eq]at hxb
    have:=hdone x hx hxb.1
    rw[hxb.2]at this
    have hkl:k<listed.size:=by have:=(Array.getElem?_eq_some_iff.1 hk).1;omega
    simp[hkl]at this hku
    rw[hku]at this;cases this
   ·obtain⟨x,hx,hxb⟩:=Array.any_eq_true'.1 h4
    rw[Bool.and_eq_true,beq_iff_eq]at hxb
    exact absurd hxb.2 (hno x hx hxb.1)
   ·exact h4

theorem zmn {o:Oper} {ρ:Operand→Value} (h:zff o=true):(∃ v,∀ w,(execOp ρ o).run P w=.ok (.value v) w)∨∀ w (o':Oper) (a:Act) (K:Act→World→Prop) (Q:Exit→Act→World→Prop),¬ o'.upon P a K Q ((execOp ρ o).run P w):=by
 obtain⟨dst,op,type,pos,after,guard⟩:=o
 cases op<;>try (cases h)
 rename_i t ix
 simp only[execOp,Instr.extract]
 cases ρ t<;>try (exact .inr fun w o' a K Q hh=>hh)
 rename_i vs
 cases hv:vs[ix]? with
 | none=>exact .inr fun w o' a K Q hh=>by simp only[hv]at hh;exact hh
 | some v=>exact .inl ⟨v,fun w=>by simp only[hv];rfl⟩
theorem zj2 {o:Oper} {a:Act} {w:World} (h:zff o=true):¬ o.asks P a w:=by
 obtain⟨dst,op,type,pos,after,guard⟩:=o
 cases op<;>try (cases h)
 rename_i t ix
 have he:((execOp a.eval { dst:=dst,op:=.extract t ix,type:=type,pos:=pos,after:=after,guard:=guard }).runT P w #[]).2=#[]:=by
  simp only[execOp,Instr.extract]
  cases a.eval t<;>try rfl
  rename_i vs
  simp only[]
  cases vs[ix]?<;>rfl
 unfold Oper.asks
 rw[he]
 intro hh
 have:=hh.1
 simp at this

theorem zyp (hB:zen ops=true) {Q:Exit→Act→World→Prop} (hQ:∀ c a (x:Option Tmp) v w,Q (.panic c) (a.put x v) w→Q (.panic c) a w) :
  ∀ (fuel:Nat) (listed:Array Bool) (a:Act) (w:World),listed.size=ops.size→wpAny P .any (ops.map qm) Q fuel listed a w→wpAny P .any ops Q fuel listed a w:=by
 have hsel:Region.noSelect ops=true:=by simp only[zen,Bool.and_eq_true]at hB;exact hB.1
 intro fuel
 induction fuel with
 | zero =>
  intro listed a w hsz h
  refine⟨?_,h.2⟩
  cases hr:Region.ready .any ops listed with
  | nil=>rfl
  | cons j js =>
   have hj:j∈Region.ready .any ops listed:=by rw[hr];simp
   by_cases hh:j∈Region.ready .any (ops.map qm) listed
   ·rw[h.1]at hh;cases hh
   ·obtain⟨i,oi,_,_,_,hi,_⟩:=zgw hB hsz hj hh
    rw[h.1]at hi;cases hi
 | succ fuel ih =>
  intro listed a w hsz h
  have hkey:∀ j,j∈Region.ready .any (ops.map qm) listed→wpOp P ops Q j (wpAny P .any ops Q fuel (listed.setIfInBounds j true)) a w:=fun j hj=>by
   have h1:=h.2 j hj
   rw[zvn]at h1
   exact wpOp_mono (fun a' w' h'=>ih _ _ _ (by simpa using hsz) h') h1
  refine⟨fun hr=>h.1 ?_,fun j hj=>?_⟩
  ·cases hr':Region.ready .any (ops.map qm) listed with
   | nil=>rfl
   | cons i is =>
    have:i∈Region.ready .any ops listed:=zgy (by rw[hr'];simp)
    rw[hr]at this;cases this
  ·by_cases hh:j∈Region.ready .any (ops.map qm) listed
   ·exact hkey j hh
   ·obtain⟨i,oi,hoi,hp,hg,hi,hfree⟩:=zgw hB hsz hj hh
    have hw:=hkey i hi
    have hwn:Region.wanted oi (yielded ops a.tmps)=true:=by simp[Region.wanted,hg]
    unfold wpOp at hw
    simp only[hoi,if_pos hwn]at hw
    have hw:oi.wp P a w (wpAny P .any ops Q fuel (listed.setIfInBounds i true)) Q:=by
     rcases hw with hw|⟨hw,_⟩
     ·exact hw
     ·exact absurd hw (zj2 hp)
    rcases zmn (P:=P) (ρ:=a.eval) hp with⟨v,hv⟩|hbad
    ·have hk:wpAny P .any ops Q fuel (listed.setIfInBounds i true) (a.put oi.dst v) w:=by
      unfold Oper.wp at hw
      rw[hv w]at hw
      exact hw
     exact (wpAny_first hoi (Region.noSelect_spec hsel) (fun c a w=>hQ c a _ _ w) fuel listed a w hfree (zgy hi) (.inl ⟨hwn,hv⟩) hk).2 j hj
    ·exact absurd hw (hbad w _ _ _ _)

theorem zva {id:Nat} {Q:Exit→Act→World→Prop} {a:Act} {w:World} (hm:P.follows .mixedOrders=true) (hB:zen ops=true) (hQ:∀ c a (x:Option Tmp) v w,Q (.panic c) (a.put x v) w→Q (.panic c) a w)
  (h:wpAny P .any (ops.map qm) Q ops.size (Array.replicate ops.size false) a { w with drawn:=w.drawn+1 }):(Code.region id ops true).wp P Q a w :=
 wp_region_any hm (zyp hB hQ _ _ _ _ (by simp) h)

theorem zox (o:Oper):(qm o).looksAt (ops.map qm)=o.looksAt ops:=by
 unfold Oper.looksAt
 show _++(match o.guard with|some (g,_)=>(((ops.map qm)[g]?).bind (·.dst)).toList|none=>[])=_
 cases o.guard with
 | none=>rfl
 | some g =>
  obtain⟨g,b⟩:=g
  simp only[]
  rw[zbj]
  cases ops[g]?<;>rfl

theorem zq7 {o:Oper} {a:Act} {K K':Act→Prop} (hk:∀ a,K a→K' a) (h:step P ops C Phi Gd ad o a K):step P (ops.map qm) C Phi Gd ad (qm o) a K':=by
 obtain⟨h1,h2⟩:=h
 refine⟨?_,fun v hv=>hk _ (h2 v ?_)⟩
 ·unfold ok at h1 ⊢
  rw[zae]
  intro hw
  obtain⟨h3,h4⟩:=h1 hw
  refine⟨h3,fun w hc hs=>h4 w hc ?_⟩
  unfold sees at hs ⊢
  rw[zox]at hs
  exact hs
 ·unfold vals at hv ⊢
  rw[zae]at hv
  exact hv

theorem zih {Q Q':Act→Prop} (hq:∀ a,Q a→Q' a):∀ (l:List Oper) (a:Act),walk P ops C Phi Gd ad Q l a→walk P (ops.map qm) C Phi Gd ad Q' (l.map qm) a
 | [],a,h=>hq a h
 | o::l,a,h=>zq7 (fun a h=>zih hq l a h) h

theorem zcn {Q:Exit→Act→World→Prop}:∀ (l:List Oper) (a:Act) (w:World),wpList P ops Q l a w→wpList P (ops.map qm) Q (l.map qm) a w
 | [],a,w,h=>h
 | o::l,a,w,h=>by
  rw[wpList]at h
  rw[List.map_cons,wpList,zae]
  show if Region.wanted o (yielded ops a.tmps)=true then _ else _
  split
  ·rename_i hw
   rw[if_pos hw]at h
   rcases h with h|h
   ·exact .inl (Oper.wp_mono (o:=o) (fun a w h=>zcn l a w h) h)
   ·exact .inr h
  ·rename_i hw
   rw[if_neg hw]at h
   exact zcn l _ _ h

theorem wp_gdH {id:Nat} {Q:Exit→Act→World→Prop} {a:Act} {w:World} {l:List Oper} (n:Nat) (hm:P.follows .mixedOrders=true) (hH:zen l.toArray=true) (hB:Region.lexTailB .any (l.map qm).toArray n=true)
  (hQ:∀ c a (x:Option Tmp) v w,Q (.panic c) (a.put x v) w→Q (.panic c) a w)
  (Phi:FuncId→Array Value→Value→Prop) (Gd:Tmp→Value→World→Prop) (ad:List Tmp) (hLa:Lasts Gd) (hE:E Gd ad a w)
  (h:Go.RowKit.Below w.heap.size w { w with drawn:=w.drawn+1 }→walk P l.toArray (fun w'=>Go.RowKit.Below w.heap.size w w') Phi Gd ad (fun a'=>∀ w',Go.RowKit.Below w.heap.size w w'→E Gd ad a' w'→wpList P l.toArray Q (l.drop n) a' w') (l.take n) a):(Code.region id l.toArray true).wp P Q a w:=by
 have hb0:Go.RowKit.Below w.heap.size w { w with drawn:=w.drawn+1 }:=(Go.RowKit.Below.refl _ _).drew
 have h:=h hb0
 have h:=zih (ops:=l.toArray) (Q':=fun a'=>∀ w',Go.RowKit.Below w.heap.size w w'→E Gd ad a' w'→wpList P (l.map qm).toArray Q ((l.map qm).drop n) a' w') (fun a' h w' hb he=>by
  have:=zcn _ _ _ (h w' hb he)
  rwa [List.map_drop,List.map_toArray]at this) _ _ h
 rw[List.map_take,List.map_toArray]at h
 refine zva hm hH hQ ?_
 rw[List.map_toArray,show l.toArray.size=(l.map qm).toArray.size by simp]
 generalize l.map qm=l at h hB ⊢
 simp only[Region.lexTailB,Bool.and_eq_true,decide_eq_true_eq]at hB
 obtain⟨⟨⟨⟨hsel,hn⟩,hs⟩,hc⟩,hlex⟩:=hB
 have hn':n<l.length:=by simpa using hn
 have htl:(l.take n).length=n:=by simp;omega
 have hdl:(l.drop n).length=l.toArray.size-n:=by simp
 have inv0:HeadInv .any l.toArray n (Array.replicate l.toArray.size false) :=
  ⟨by simp,fun j oj _ hl=>(by rw[getD_replicate_false]at hl;cases hl),fun t _ ht=>getD_in (by simpa using ht) (getD_replicate_false _ _)⟩
 have H:=anyOrder_lex (md:=.any) (g:=l.toArray.size-n) hsel (fun listed inv i hi hun=>tail_waits hs hc hn inv _ i rfl hi hun) (l.take n) 0 _ a (fun j hj=>by
  have hj':j<n:=by rw[htl]at hj;exact hj
  simp[hj']) (by simpa using htl) inv0 (by rw[htl];exact hlex) h
 have:=wpAny_of_anyOrder (Q':=Q) hLa (g:=l.toArray.size-n) (fun listed a' w' hw' he hL=>by
  have:=wpAny_of_seq (md:=.any) (Q':=Q) (l.drop n) n listed a' w' (fun j=>by simp[List.getElem?_drop]) (by rw[hdl];exact hL.1) (hL.2 w' hw' he)
  rwa [hdl]at this) _ _ _ _ hb0 ⟨fun d=>hLa.1 _ _ _ _ (hE.1 d) hb0,hE.2.1,hE.2.2⟩ H
 rw[htl,show n+(l.toArray.size-n)=l.toArray.size by omega]at this
 exact this
end
end Go.Qg
