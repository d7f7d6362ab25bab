/-
 Lemmas: Fl.
-/
import Derived.Test.YtbiacfkiakddiaaGreatOab
import Derived.Deep.Draws
import Derived.WalkKit
import Derived.WalkLawsBesides
set_option linter.unusedVariables false
set_option linter.unusedSimpArgs false
namespace Go.Fl
open Go Go.RowKit
/-- The word that stands for all not-a-numbers. -/
def nanw:FloatKind → Nat
 | .f32 => 2143289344
 | .f64 => 9221120237041090560

/-- A word,all not-a-numbers made one. -/
def cn (k:FloatKind) (x:Nat):Nat:=if (k.decode x).isNaN then nanw k else x

theorem nan_nanw (k:FloatKind):(k.decode (nanw k)).isNaN = true:=by cases k <;> decide +kernel

theorem isNaN_cn (k:FloatKind) (x:Nat):(k.decode (cn k x)).isNaN = (k.decode x).isNaN:=by
 unfold cn
 split
 ·rename_i h;rw [nan_nanw,h]
 ·rfl

theorem cn_of_not {k:FloatKind} {x:Nat} (h:(k.decode x).isNaN = false):cn k x = x:=by unfold cn;rw [h];rfl
theorem cn_of_nan {k:FloatKind} {x:Nat} (h:(k.decode x).isNaN = true):cn k x = nanw k:=by unfold cn;rw [h];rfl
theorem isNaN_cases {d:Ieee.Datum} (h:d.isNaN = true):∃ s t,d = .nan s t:=by
 cases d with
 | nan s t => exact ⟨s,t,rfl⟩
 | _ => cases h

theorem sum_nan_l {d e:Ieee.Datum} (h:d.isNaN = true):d.sum e = none:=by obtain ⟨s,t,rfl⟩:=isNaN_cases h;cases e <;> rfl
theorem sum_nan_r {d e:Ieee.Datum} (h:e.isNaN = true):d.sum e = none:=by obtain ⟨s,t,rfl⟩:=isNaN_cases h;cases d <;> rfl
theorem opp_nan {d:Ieee.Datum}:d.opposite.isNaN = d.isNaN:=by cases d <;> rfl
theorem product_nan_l {d e:Ieee.Datum} (h:d.isNaN = true):d.product e = none:=by obtain ⟨s,t,rfl⟩:=isNaN_cases h;cases e <;> rfl
theorem product_nan_r {d e:Ieee.Datum} (h:e.isNaN = true):d.product e = none:=by obtain ⟨s,t,rfl⟩:=isNaN_cases h;cases d <;> rfl
theorem quotient_nan_l {n:Nat} {d e:Ieee.Datum} (h:d.isNaN = true):d.quotient n e = none:=by obtain ⟨s,t,rfl⟩:=isNaN_cases h;cases e <;> rfl
theorem quotient_nan_r {n:Nat} {d e:Ieee.Datum} (h:e.isNaN = true):d.quotient n e = none:=by obtain ⟨s,t,rfl⟩:=isNaN_cases h;cases d <;> rfl
theorem order_nan_l {d e:Ieee.Datum} (h:d.isNaN = true):d.order e = none:=by obtain ⟨s,t,rfl⟩:=isNaN_cases h;cases e <;> rfl
theorem order_nan_r {d e:Ieee.Datum} (h:e.isNaN = true):d.order e = none:=by obtain ⟨s,t,rfl⟩:=isNaN_cases h;cases d <;> rfl
theorem root_nan {n:Nat} {d:Ieee.Datum} (h:d.isNaN = true):d.root n = none:=by obtain ⟨s,t,rfl⟩:=isNaN_cases h;rfl

theorem decode_eq (k:FloatKind) (x:Nat):k.decode x = k.format.read x:=rfl

/-- A function of two data that is the same at all not-a-numbers. -/
theorem two_cn {α:Type} (k:FloatKind) (f:Ieee.Datum → Ieee.Datum → α) (z:α) (hl:∀ d e,d.isNaN = true → f d e = z) (hr:∀ d e,e.isNaN = true → f d e = z) (x y:Nat) :
  f (k.format.read (cn k x)) (k.format.read (cn k y)) = f (k.format.read x) (k.format.read y):=by
 cases hx:(k.decode x).isNaN
 ·cases hy:(k.decode y).isNaN
  ·rw [cn_of_not hx,cn_of_not hy]
  ·rw [hr _ _ (by rw [← decode_eq,isNaN_cn];exact hy),hr _ (k.format.read y) hy]
 ·rw [hl _ _ (by rw [← decode_eq,isNaN_cn];exact hx),hl (k.format.read x) _ hx]

theorem floatBits_cn (op:BinOp) (k:FloatKind) (x y:Nat):floatBits op k (cn k x) (cn k y) = floatBits op k x y:=by
 unfold floatBits
 cases op <;> try rfl
 ·exact two_cn k (fun d e => (d.sum e).map k.format.write) none (fun d e h => by rw [sum_nan_l h];rfl) (fun d e h => by rw [sum_nan_r h];rfl) x y
 ·exact two_cn k (fun d e => (d.sum e.opposite).map k.format.write) none (fun d e h => by rw [sum_nan_l h];rfl) (fun d e h => by rw [sum_nan_r (by rw [opp_nan];exact h)];rfl) x y
 ·exact two_cn k (fun d e => (d.product e).map k.format.write) none (fun d e h => by rw [product_nan_l h];rfl) (fun d e h => by rw [product_nan_r h];rfl) x y
 ·exact two_cn k (fun d e => (d.quotient (k.format.fractionBits + 2) e).map k.format.write) none (fun d e h => by rw [quotient_nan_l h];rfl) (fun d e h => by rw [quotient_nan_r h];rfl) x y

theorem order_cn (k:FloatKind) (x y:Nat):k.format.order (cn k x) (cn k y) = k.format.order x y :=
 two_cn k (fun d e => d.order e) none (fun _ _ h => order_nan_l h) (fun _ _ h => order_nan_r h) x y

/-- What a written number or infinity reads as is no not-a-number. -/
theorem read_word (f:Ieee.Format) (neg:Bool) (r:Nat) (h:r ≤ f.infRung):(f.read (f.word neg r)).isNaN = false:=by
 have hlt:r < f.signWeight:=Nat.lt_of_le_of_lt h (Ieee.Format.infRung_lt f)
 have hm:f.word neg r % f.signWeight = r:=by
  unfold Ieee.Format.word
  split
  ·rw [Nat.add_mod_left];exact Nat.mod_eq_of_lt hlt
  ·exact Nat.mod_eq_of_lt hlt
 unfold Ieee.Format.read
 simp only [hm]
 split
 ·rfl
 ·split
  ·rfl
  ·split
   ·rfl
   ·omega

theorem nearest_not (f:Ieee.Format) (neg:Bool) (m:Nat) (e:Int):(f.read (f.nearest neg m e)).isNaN = false:=by
 unfold Ieee.Format.nearest
 split
 ·exact read_word f neg 0 (Nat.zero_le _)
 ·exact read_word f neg _ (Nat.min_le_right _ _)

theorem write_not (f:Ieee.Format) {d:Ieee.Datum} (h:d.isNaN = false):(f.read (f.write d)).isNaN = false:=by
 cases d with
 | number s m e => exact nearest_not f s m e
 | infinity s => exact read_word f s _ (Nat.le_refl _)
 | nan s t => cases h

theorem sum_not {d e r:Ieee.Datum} (h:d.sum e = some r):r.isNaN = false:=by
 cases d <;> cases e <;> simp only [Ieee.Datum.sum] at h <;> first | (cases h;done) | (cases h;rfl) | (split at h <;> cases h <;> rfl)
theorem product_not {d e r:Ieee.Datum} (h:d.product e = some r):r.isNaN = false:=by
 cases d <;> cases e <;> simp only [Ieee.Datum.product] at h <;> first | (cases h;done) | (cases h;rfl) | (split at h <;> cases h <;> rfl)
theorem quotient_not {n:Nat} {d e r:Ieee.Datum} (h:d.quotient n e = some r):r.isNaN = false:=by
 cases d <;> cases e <;> simp only [Ieee.Datum.quotient] at h <;> first | (cases h;done) | (cases h;rfl) | (split at h <;> (try split at h) <;> cases h <;> rfl)
theorem root_not {n:Nat} {d r:Ieee.Datum} (h:d.root n = some r):r.isNaN = false:=by
 cases d <;> simp only [Ieee.Datum.root] at h <;> first | (cases h;done) | (cases h;rfl) | (split at h <;> (try split at h) <;> cases h <;> rfl)

theorem floatBits_not {op:BinOp} {k:FloatKind} {x y r:Nat} (h:floatBits op k x y = some r):(k.decode r).isNaN = false:=by
 unfold floatBits at h
 split at h
 ·obtain ⟨d,hd,rfl⟩:=Option.map_eq_some_iff.1 h;exact write_not _ (sum_not hd)
 ·obtain ⟨d,hd,rfl⟩:=Option.map_eq_some_iff.1 h;exact write_not _ (sum_not hd)
 ·obtain ⟨d,hd,rfl⟩:=Option.map_eq_some_iff.1 h;exact write_not _ (product_not hd)
 ·obtain ⟨d,hd,rfl⟩:=Option.map_eq_some_iff.1 h;exact write_not _ (quotient_not hd)
 ·cases h

/-- The operation on words with one not-a-number. -/
def bin (op:BinOp) (k:FloatKind) (x y:Nat):Nat:=(floatBits op k x y).getD (nanw k)

theorem nan_single (s m:Nat) (h0:0 < m) (h1:m < 8388608):(Ieee.single.read (s % 2 * 2147483648 + (2139095040 + m))).isNaN = true:=by
 have e1:Ieee.single.signWeight = 2147483648:=by decide
 have e2:Ieee.single.binade = 8388608:=by decide
 have e3:Ieee.single.infRung = 2139095040:=by decide
 have hm:(s % 2 * 2147483648 + (2139095040 + m)) % 2147483648 = 2139095040 + m:=by omega
 unfold Ieee.Format.read
 simp only [e1,e2,e3,hm]
 rw [if_neg (by omega),if_neg (by omega),if_neg (by omega)]
 rfl

theorem nan_double (s m:Nat) (h0:0 < m) (h1:m < 4503599627370496):(Ieee.double.read (s % 2 * 9223372036854775808 + (9218868437227405312 + m))).isNaN = true:=by
 have e1:Ieee.double.signWeight = 9223372036854775808:=by decide
 have e2:Ieee.double.binade = 4503599627370496:=by decide
 have e3:Ieee.double.infRung = 9218868437227405312:=by decide
 have hm:(s % 2 * 9223372036854775808 + (9218868437227405312 + m)) % 9223372036854775808 = 9218868437227405312 + m:=by omega
 unfold Ieee.Format.read
 simp only [e1,e2,e3,hm]
 rw [if_neg (by omega),if_neg (by omega),if_neg (by omega)]
 rfl

/-- A drawn not-a-number is one. -/
theorem cut_nan (k:FloatKind) (x y t:Nat):(k.decode (Question.cut (.nanBits k x y) t)).isNaN = true:=by
 cases k
 ·have h:t / 2 % 8388607 < 8388607:=Nat.mod_lt _ (by decide)
  have:=nan_single t (1 + t / 2 % 8388607) (by omega) (by omega)
  have e:t % 2 * 2147483648 + (2139095040 + (1 + t / 2 % 8388607)) = Question.cut (.nanBits .f32 x y) t:=by
   show _ = t % 2 * 2 ^ 31 + 0x7f800000 + 1 + t / 2 % (2 ^ 23 - 1)
   omega
  rw [e] at this;exact this
 ·have h:t / 2 % 4503599627370495 < 4503599627370495:=Nat.mod_lt _ (by decide)
  have:=nan_double t (1 + t / 2 % 4503599627370495) (by omega) (by omega)
  have e:t % 2 * 9223372036854775808 + (9218868437227405312 + (1 + t / 2 % 4503599627370495)) = Question.cut (.nanBits .f64 x y) t:=by
   show _ = t % 2 * 2 ^ 63 + 0x7ff0000000000000 + 1 + t / 2 % (2 ^ 52 - 1)
   omega
  rw [e] at this;exact this

theorem cut_conv (k:FloatKind) (x t:Nat):(k.decode (Question.cut (.nanConv k x) t)).isNaN = true:=by
 cases k
 ·exact cut_nan .f32 x x t
 ·exact cut_nan .f64 x x t

def arith:BinOp → Bool
 | .add | .sub | .mul | .quo => true
 | _ => false

section
variable {P:Program}
/-- WHAT A FLOAT OPERATION COMES TO,ANY OPERANDS. -/
theorem run_bin (w:World) (op:BinOp) (t:TypeId) (k:FloatKind) (x y:Nat) (h:arith op = true) :
  ∃ r n,(binOp op t (.float k x) (.float k y)).run P w = .ok (.float k r) (w.drewN n) ∧ cn k r = bin op k (cn k x) (cn k y):=by
 cases hb:floatBits op k x y with
 | some r =>
  refine ⟨r,0,by rw [run_float_arith w op t k x y r hb];rfl,?_⟩
  unfold bin
  rw [floatBits_cn,hb,cn_of_not (floatBits_not hb)]
  rfl
 | none =>
  refine ⟨Question.cut (.nanBits k x y) (w.tape w.drawn (.nanBits k x y)),1,?_,?_⟩
  ·unfold floatBits at hb
   cases op <;> first | (cases h;done) | skip
   all_goals simp only at hb;simp [binOp,Op.floatArith,hb,choose,Sem.run,Question.forced,World.drewN,World.ask]
  ·unfold bin
   rw [floatBits_cn,hb,cn_of_nan (cut_nan k x y _)]
   rfl

/-- An operation as its run equation gives it: for the walk. -/
theorem wp_op {ops:Array Oper} {rest:List Oper} {o:Oper} {a:Act} {Q:Exit → Act → World → Prop} {w:World} (hgd:o.guard = none) (v:Value) (w':World)
  (hr:(execOp a.eval o).run P w = .ok (.value v) w') (h:wpList P ops Q rest (a.put o.dst v) w'):wpList P ops Q (o :: rest) a w :=
 wpList_plain hgd fun K hK => by unfold Oper.wp;rw [hr];exact hK _ _ h

theorem exec_bin (o:Oper) (a:Act) (op:BinOp) (t t2:TypeId) (x y:Operand) (ho:o.op = .binOp op t x y t2) (hop:arith op = true) (w:World) (v:Value) (w':World)
  (hr:(binOp op t (a.eval x) (a.eval y)).run P w = .ok v w'):(execOp a.eval o).run P w = .ok (.value v) w':=by
 cases op <;> first | (cases hop;done) | skip
 all_goals simp [execOp,ho,eqGuard,hr]

theorem exec_convert (o:Oper) (a:Act) (s d:TypeId) (x:Operand) (ho:o.op = .convert s d x) (w:World) (v:Value) (w':World)
  (hr:(convert s d (a.eval x)).run P w = .ok v w'):(execOp a.eval o).run P w = .ok (.value v) w':=by
 simp [execOp,ho,hr]

/-- + - * / on floats. -/
theorem wp_bin {ops:Array Oper} {rest:List Oper} {o:Oper} {a:Act} {Q:Exit → Act → World → Prop} {w:World} (hgd:o.guard = none) (op:BinOp) (t t2:TypeId) (x y:Operand)
  (ho:o.op = .binOp op t x y t2) (k:FloatKind) (u v:Nat) (hx:a.eval x = .float k u) (hy:a.eval y = .float k v) (hop:arith op = true)
  (h:∀ r n,cn k r = bin op k (cn k u) (cn k v) → wpList P ops Q rest (a.put o.dst (.float k r)) (w.drewN n)):wpList P ops Q (o :: rest) a w:=by
 obtain ⟨r,n,hr,hc⟩:=run_bin (P:=P) w op t k u v hop
 exact wp_op hgd _ _ (exec_bin o a op t t2 x y ho hop w _ _ (by rw [hx,hy];exact hr)) (h r n hc)

/-- float64(x) of a float32,on words with one not-a-number. -/
def wid (x:Nat):Nat:=if (FloatKind.f32.decode x).isNaN then nanw .f64 else FloatKind.f64.encode (FloatKind.f32.decode x)
/-- float32(x) of a float64. -/
def nar (x:Nat):Nat:=if (FloatKind.f64.decode x).isNaN then nanw .f32 else FloatKind.f32.encode (FloatKind.f64.decode x)
/-- .. is given by the language: no finite number becomes an infinity. -/
def fits (x:Nat):Prop:=∀ s m e,FloatKind.f64.decode x = .number s m e → (FloatKind.f32.decode (FloatKind.f32.encode (.number s m e))).isInfinity = false
/-- .. likewise,of the other way: always so,but to be shown. -/
def fitsW (x:Nat):Prop:=∀ s m e,FloatKind.f32.decode x = .number s m e → (FloatKind.f64.decode (FloatKind.f64.encode (.number s m e))).isInfinity = false

theorem run_conv (w:World) (s d:TypeId) (ks kd:FloatKind) (hne:ks ≠ kd) (hs:(P.underlying s).isSome = true) (hd:P.underlying d = some (.float kd)) (x:Nat)
  (hf:∀ s m e,ks.decode x = .number s m e → (kd.decode (kd.encode (.number s m e))).isInfinity = false) :
  ∃ r n,(convert s d (.float ks x)).run P w = .ok (.float kd r) (w.drewN n) ∧ cn kd r = if (ks.decode x).isNaN then nanw kd else kd.encode (ks.decode x):=by
 obtain ⟨u,hs'⟩:=Option.isSome_iff_exists.1 hs
 cases hx:ks.decode x with
 | nan sg t =>
  refine ⟨Question.cut (.nanConv kd x) (w.tape w.drawn (.nanConv kd x)),1,?_,by rw [cn_of_nan (cut_conv kd x _)];rfl⟩
  cases u <;> simp [convert,run_underlying hs',run_underlying hd,Conv.floatToFloat,hx,hne,choose,Sem.run,Question.forced,World.drewN,World.ask]
 | infinity sg =>
  refine ⟨kd.encode (.infinity sg),0,?_,by rw [cn_of_not (show (kd.decode (kd.encode _)).isNaN = false from write_not kd.format rfl)];rfl⟩
  rw [run_convert_float_float w s d ks kd x _ hs hd (by unfold floatToFloatBits;rw [if_neg hne,hx])]
  rfl
 | number sg m e =>
  refine ⟨kd.encode (.number sg m e),0,?_,by rw [cn_of_not (show (kd.decode (kd.encode _)).isNaN = false from write_not kd.format rfl)];rfl⟩
  rw [run_convert_float_float w s d ks kd x _ hs hd (by unfold floatToFloatBits;rw [if_neg hne,hx];simp only [hf _ _ _ hx];rfl)]
  rfl

theorem decode_cn_not {k:FloatKind} {x:Nat} (h:(k.decode x).isNaN = false):k.decode (cn k x) = k.decode x:=by rw [cn_of_not h]

theorem cn_pick (ks kd:FloatKind) (x:Nat):(if (ks.decode (cn ks x)).isNaN then nanw kd else kd.encode (ks.decode (cn ks x))) = if (ks.decode x).isNaN then nanw kd else kd.encode (ks.decode x):=by
 rw [isNaN_cn]
 cases h:(ks.decode x).isNaN
 ·rw [decode_cn_not h]
 ·rfl

theorem wp_wid {ops:Array Oper} {rest:List Oper} {o:Oper} {a:Act} {Q:Exit → Act → World → Prop} {w:World} (hgd:o.guard = none) (s d:TypeId) (x:Operand)
  (ho:o.op = .convert s d x) (u:Nat) (hx:a.eval x = .float .f32 u) (hs:(P.underlying s).isSome = true) (hd:P.underlying d = some (.float .f64)) (hf:∀ x,fitsW x)
  (h:∀ r n,cn .f64 r = wid (cn .f32 u) → wpList P ops Q rest (a.put o.dst (.float .f64 r)) (w.drewN n)):wpList P ops Q (o :: rest) a w:=by
 obtain ⟨r,n,hr,hc⟩:=run_conv (P:=P) w s d .f32 .f64 (by decide) hs hd u (hf u)
 refine wp_op hgd _ _ (exec_convert o a s d x ho w _ _ (by rw [hx];exact hr)) (h r n ?_)
 rw [hc];exact (cn_pick .f32 .f64 u).symm

theorem fits_cn {x:Nat} (h:fits (cn .f64 x)):fits x:=by
 intro s m e hx
 refine h s m e ?_
 rw [decode_cn_not (by rw [hx];rfl)];exact hx

theorem wp_nar {ops:Array Oper} {rest:List Oper} {o:Oper} {a:Act} {Q:Exit → Act → World → Prop} {w:World} (hgd:o.guard = none) (s d:TypeId) (x:Operand)
  (ho:o.op = .convert s d x) (u:Nat) (hx:a.eval x = .float .f64 u) (hs:(P.underlying s).isSome = true) (hd:P.underlying d = some (.float .f32)) (hf:fits (cn .f64 u))
  (h:∀ r n,cn .f32 r = nar (cn .f64 u) → wpList P ops Q rest (a.put o.dst (.float .f32 r)) (w.drewN n)):wpList P ops Q (o :: rest) a w:=by
 obtain ⟨r,n,hr,hc⟩:=run_conv (P:=P) w s d .f64 .f32 (by decide) hs hd u (fits_cn hf)
 refine wp_op hgd _ _ (exec_convert o a s d x ho w _ _ (by rw [hx];exact hr)) (h r n ?_)
 rw [hc];exact (cn_pick .f64 .f32 u).symm

/-- A call of a function of one argument that the model has as an entry. -/
theorem exec_entry (o:Oper) (a:Act) (f:FuncId) (x:Operand) (ats:Array TypeId) (ho:o.op = .call { callee:=.value (.func f),args:=#[x],argTypes:=ats }) (hf:a.eval (.func f) = .func (.func f) #[] #[])
  (e:Array Value → Sem Value) (hcf:∀ args w,(callFunc f args).run P w = ((e args).run P w).andThen fun v w' => .ok (.value v) w') (w:World) (v:Value) (w':World)
  (hr:(e #[a.eval x]).run P w = .ok v w'):(execOp a.eval o).run P w = .ok (.value v) w':=by
 simp only [execOp,ho,resolve,invoke,Deferred.ofValue,hf,Sem.run_bind,Sem.run_pure,Result.andThen_ok]
 simp only [List.map_toArray,List.map_cons,List.map_nil,Array.empty_append,Array.append_empty,hcf,hr]
 rfl

theorem wp_entry {ops:Array Oper} {rest:List Oper} {o:Oper} {a:Act} {Q:Exit → Act → World → Prop} {w:World} (hgd:o.guard = none) (f:FuncId) (x:Operand) (ats:Array TypeId)
  (ho:o.op = .call { callee:=.value (.func f),args:=#[x],argTypes:=ats }) (hf:a.eval (.func f) = .func (.func f) #[] #[])
  (e:Array Value → Sem Value) (hcf:∀ args w,(callFunc f args).run P w = ((e args).run P w).andThen fun v w' => .ok (.value v) w') (R:Value → Prop)
  (hr:∃ v n,(e #[a.eval x]).run P w = .ok v (w.drewN n) ∧ R v) (h:∀ v n,R v → wpList P ops Q rest (a.put o.dst v) (w.drewN n)):wpList P ops Q (o :: rest) a w:=by
 obtain ⟨v,n,h1,h2⟩:=hr
 exact wp_op hgd _ _ (exec_entry o a f x ats ho hf e hcf w _ _ h1) (h v n h2)

/-- The square root,on words with one not-a-number. -/
def sqr (x:Nat):Nat:=(FloatKind.f64.format.sqrt x).getD (nanw .f64)
theorem sqrt_cn (x:Nat):FloatKind.f64.format.sqrt (cn .f64 x) = FloatKind.f64.format.sqrt x:=by
 cases h:(FloatKind.f64.decode x).isNaN
 ·rw [cn_of_not h]
 ·have h2:(FloatKind.f64.decode (cn .f64 x)).isNaN = true:=by rw [isNaN_cn];exact h
  show ((FloatKind.f64.decode (cn .f64 x)).root _).map _ = ((FloatKind.f64.decode x).root _).map _
  rw [root_nan h,root_nan h2]
theorem sqrt_not {x r:Nat} (h:FloatKind.f64.format.sqrt x = some r):(FloatKind.f64.decode r).isNaN = false:=by
 obtain ⟨d,hd,rfl⟩:=Option.map_eq_some_iff.1 h
 exact write_not _ (root_not hd)
theorem run_sqrt (w:World) (x:Nat):∃ v n,(Extern.MathSqrt.sqrt #[.float .f64 x]).run P w = .ok v (w.drewN n) ∧ ∃ r,v = .float .f64 r ∧ cn .f64 r = sqr (cn .f64 x):=by
 cases hb:FloatKind.f64.format.sqrt x with
 | some r =>
  refine ⟨.float .f64 r,0,?_,r,rfl,by unfold sqr;rw [sqrt_cn,hb,cn_of_not (sqrt_not hb)];rfl⟩
  show Sem.run P (match FloatKind.f64.format.sqrt x with | some r => pure (Value.float .f64 r) | none => do pure (.float .f64 (← choose (.nanBits .f64 x x)))) w = _
  rw [hb];rfl
 | none =>
  refine ⟨.float .f64 (Question.cut (.nanBits .f64 x x) (w.tape w.drawn (.nanBits .f64 x x))),1,?_,_,rfl,by unfold sqr;rw [sqrt_cn,hb,cn_of_nan (cut_nan .f64 x x _)];rfl⟩
  show Sem.run P (match FloatKind.f64.format.sqrt x with | some r => pure (Value.float .f64 r) | none => do pure (.float .f64 (← choose (.nanBits .f64 x x)))) w = _
  rw [hb]
  simp [choose,Sem.run,Question.forced,World.drewN,World.ask]

/-- A float64 made whole. -/
def whole (way:Ieee.Toward) (x:Nat):Nat:=if (FloatKind.f64.decode x).isNaN then nanw .f64 else FloatKind.f64.encode ((FloatKind.f64.decode x).integral way)
theorem whole_cn (way:Ieee.Toward) (x:Nat):whole way (cn .f64 x) = whole way x:=by
 unfold whole
 rw [isNaN_cn]
 cases h:(FloatKind.f64.decode x).isNaN
 ·rw [decode_cn_not h]
 ·rfl

theorem quiet_lt (t:Nat) (h:t < 4503599627370496):Ieee.double.quiet t < 4503599627370496:=by
 have:t ||| 2 ^ 51 < 2 ^ 52:=Nat.or_lt_two_pow h (by decide)
 exact this
theorem quiet_pos (t:Nat):0 < Ieee.double.quiet t:=by
 have:2 ^ 51 ≤ t ||| 2 ^ 51:=Nat.right_le_or
 exact Nat.lt_of_lt_of_le (by decide) this

theorem read_nan_lt {x:Nat} {s:Bool} {t:Nat} (h:FloatKind.f64.decode x = .nan s t):t < 4503599627370496:=by
 have e1:Ieee.double.signWeight = 9223372036854775808:=by decide
 have e2:Ieee.double.binade = 4503599627370496:=by decide
 have e3:Ieee.double.infRung = 9218868437227405312:=by decide
 change Ieee.double.read x = _ at h
 unfold Ieee.Format.read at h
 simp only [e1,e2,e3] at h
 split at h
 ·cases h
 ·split at h
  ·cases h
  ·split at h
   ·cases h
   ·injection h with h1 h2
    omega

theorem write_nan (s:Bool) (t:Nat) (h:t < 4503599627370496):Ieee.double.write (.nan s t) = (if s then 1 else 0) % 2 * 9223372036854775808 + (9218868437227405312 + t):=by
 have e1:Ieee.double.signWeight = 9223372036854775808:=by decide
 have e2:Ieee.double.binade = 4503599627370496:=by decide
 have e3:Ieee.double.infRung = 9218868437227405312:=by decide
 have hm:t % 4503599627370496 = t:=Nat.mod_eq_of_lt h
 simp only [Ieee.Format.write,Ieee.Format.word,e1,e2,e3,hm]
 cases s
 ·simp only [Bool.false_eq_true,if_false];omega
 ·simp only [if_true];try omega

theorem cn_enc {k:FloatKind} {d:Ieee.Datum} (h:d.isNaN = false):cn k (k.encode d) = k.encode d:=cn_of_not (write_not k.format h)

theorem run_whole (w:World) (name:String) (way:Ieee.Toward) (x:Nat):∃ v n,(Extern.MathFloor.toIntegral name way #[.float .f64 x]).run P w = .ok v (w.drewN n) ∧ ∃ r,v = .float .f64 r ∧ cn .f64 r = whole way (cn .f64 x):=by
 have hd:(Extern.MathFloor.toIntegral name way #[.float .f64 x]).run P w = Sem.run P (match FloatKind.f64.decode x with
  | .nan s t => if FloatKind.f64.format.quiet t = t then pure (Value.float .f64 x) else do
    let kept ← choose (.extern "math.Floor,Ceil,Trunc,RoundToEven.signallingNaN kept" 2)
    pure (.float .f64 (if kept == 1 then x else FloatKind.f64.encode (.nan s (FloatKind.f64.format.quiet t))))
  | d => pure (.float .f64 (FloatKind.f64.encode (d.integral way)))) w:=rfl
 rw [hd,whole_cn]
 cases hx:FloatKind.f64.decode x with
 | nan s t =>
  have hn:(FloatKind.f64.decode x).isNaN = true:=by rw [hx];rfl
  have hw:whole way x = nanw .f64:=by unfold whole;rw [hn];rfl
  by_cases hq:FloatKind.f64.format.quiet t = t
  ·exact ⟨.float .f64 x,0,by simp only [hq,if_true];rfl,x,rfl,by rw [hw,cn_of_nan hn]⟩
  ·refine ⟨_,1,by simp only [hq,if_false];simp only [choose,Sem.run,Sem.run_bind,Question.forced];try rfl,_,rfl,?_⟩
   rw [hw]
   split
   ·exact cn_of_nan hn
   ·refine cn_of_nan ?_
    have hl:=read_nan_lt hx
    have h2:=nan_double (if s then 1 else 0) (Ieee.double.quiet t) (quiet_pos t) (quiet_lt t hl)
    have e:FloatKind.f64.encode (.nan s (FloatKind.f64.format.quiet t)) = (if s then 1 else 0) % 2 * 9223372036854775808 + (9218868437227405312 + Ieee.double.quiet t):=by
     exact write_nan s _ (quiet_lt t hl)
    rw [e];exact h2
 | infinity s => exact ⟨.float .f64 (FloatKind.f64.encode ((Ieee.Datum.infinity s).integral way)),0,rfl,_,rfl,(cn_enc (d:=(Ieee.Datum.infinity s).integral way) rfl).trans (by unfold whole;rw [hx,if_neg (by intro h;cases h)])⟩
 | number s m e => exact ⟨.float .f64 (FloatKind.f64.encode ((Ieee.Datum.number s m e).integral way)),0,rfl,_,rfl,(cn_enc (d:=(Ieee.Datum.number s m e).integral way) rfl).trans (by unfold whole;rw [hx,if_neg (by intro h;cases h)])⟩
end
@[go_sem] theorem run_store_float (P:Program) (w:World) (a:Addr) (m:Mode) (k:FloatKind) (b:Nat):(store a (.float k b) m).run P w = stored P w a (.float k b) m:=run_store P w a _ m rfl
@[go_sem] theorem run_neg_float (P:Program) (w:World) (k:FloatKind) (b:Nat):(Op.unary .neg (.float k b)).run P w = .ok (.float k (Op.negFloat k b)) w:=rfl
/-- What is said of a float result: up to the bits of a not-a-number,and nothing of what was there has turned. -/
def Ret (k:FloatKind) (v:Nat) (w:World) (e:Ending) (w':World):Prop:=∃ r,e = .returned (.float k r) ∧ cn k r = v ∧ Below w.heap.size w w'

theorem below_step {A B C:World} (h1:Below A.heap.size A B) (h2:Below B.heap.size B C):Below A.heap.size A C:=h1.trans (h2.mono h1.size)

theorem some_lt {w:World} {a:Addr} (h:(w.cell? a).isSome = true):a.block < w.heap.size:=by
 rcases Nat.lt_or_ge a.block w.heap.size with h' | h'
 ·exact h'
 ·exfalso
  unfold World.cell? at h
  have e:w.heap[a.block]? = none:=Array.getElem?_eq_none h'
  rw [e] at h
  cases h

/-- What was there reads as it did. -/
theorem lift {W w':World} (h:Below W.heap.size W w'):∀ a:Addr,(W.cell? a).isSome = true → w'.cell? a = W.cell? a:=fun _ ha => h.cell (some_lt ha)
theorem liftF {W w':World} (h:Below W.heap.size W w'):∀ a:Addr,(W.cell? a).isSome = true → w'.frozen? a = W.frozen? a:=fun _ ha => h.frozen (some_lt ha)

/-- What is known of some cells: what they hold;and that they can be written. -/
def Kept (cs:List (Addr × Value)) (fs:List Addr) (w:World):Prop:=(∀ p ∈ cs,w.cell? p.1 = some p.2) ∧ ∀ a ∈ fs,(w.cell? a).isSome = true ∧ w.frozen? a = false
theorem ka {α:Type _} {p:α → Prop} {xs ys:List α}:(∀ (x:α),x ∈ xs ++ ys → p x) ↔ (∀ (x:α),x ∈ xs → p x) ∧ ∀ (x:α),x ∈ ys → p x:=List.forall_mem_append
theorem kb {α:Type _} {p:α → Prop} {a:α} {l:List α}:(∀ (x:α),x ∈ a :: l → p x) ↔ p a ∧ ∀ (x:α),x ∈ l → p x:=List.forall_mem_cons
theorem kc {α:Type _} {a:α}:¬a ∈ []:=List.not_mem_nil
theorem kd (p:Prop):(False → p) = True:=false_implies p
theorem ke (α:Sort _):(α → True) = True:=implies_true α
theorem kfa (p:Prop):(p ∧ True) = p:=and_true p
theorem kga (p:Prop):(True ∧ p) = p:=true_and p

theorem keep {cs:List (Addr × Value)} {fs:List Addr} {W w:World} (h:Kept cs fs W) (hb:Below W.heap.size W w):Kept cs fs w:=by
 refine ⟨fun p hp => ?_,fun a ha => ?_⟩
 ·have:=h.1 p hp
  rw [lift hb _ (by rw [this];rfl)];exact this
 ·have:=h.2 a ha
  exact ⟨by rw [lift hb _ this.1];exact this.1,by rw [liftF hb _ this.1];exact this.2⟩

theorem kept_app {cs cs':List (Addr × Value)} {fs fs':List Addr} {w:World} (h:Kept cs fs w) (h':Kept cs' fs' w):Kept (cs ++ cs') (fs ++ fs') w :=
 ⟨fun p hp => (List.mem_append.1 hp).elim (h.1 p) (h'.1 p),fun a ha => (List.mem_append.1 ha).elim (h.2 a) (h'.2 a)⟩

theorem kept_set {cs:List (Addr × Value)} {fs:List Addr} {w:World} (h:Kept cs fs w) {a:Addr} (hc:∀ p ∈ cs,a.block ≠ p.1.block) (hf:∀ x ∈ fs,a.block ≠ x.block) (v:Value):Kept cs fs (w.setCell a v):=by
 have hh:∀ k,k ≠ a.block → (w.setCell a v).heap[k]? = w.heap[k]?:=fun k hk => Below.heap_setCell w a v k hk
 refine ⟨fun p hp => ?_,fun x hx => ?_⟩
 ·rw [World.cell?_of_block (w:=w) (hh p.1.block (Ne.symm (hc p hp)))];exact h.1 p hp
 ·rw [World.cell?_of_block (w:=w) (hh x.block (Ne.symm (hf x hx))),World.frozen?_of_block (w:=w) (hh x.block (Ne.symm (hf x hx)))];exact h.2 x hx

theorem kept_drewN {cs:List (Addr × Value)} {fs:List Addr} {W:World} (h:Kept cs fs W) (n:Nat):Kept cs fs (W.drewN n):=h

/-- A float operation in a region that draws its order. -/
theorem one_bin {P:Program} {W:World} {Phi:FuncId → Array Value → Value → Prop} {o:Oper} {a:Act} {K:Act → Prop} (op:BinOp) (t t2:TypeId) (x y:Operand)
  (ho:o.op = .binOp op t x y t2) (k:FloatKind) (u v:Nat) (hx:a.eval x = .float k u) (hy:a.eval y = .float k v) (hop:arith op = true)
  (h:∀ r,cn k r = bin op k (cn k u) (cn k v) → K (a.put o.dst (.float k r))):Qr.one P (fun w' => Below W.heap.size W w') Phi o a K:=by
 refine Qr.one_rel (fun x => ∃ r,x = .float k r ∧ cn k r = bin op k (cn k u) (cn k v)) (fun w' hw' => ?_) ?_
 ·obtain ⟨r,n,hr,hc⟩:=run_bin (P:=P) w' op t k u v hop
  exact ⟨_,w'.drewN n,exec_bin o a op t t2 x y ho hop w' _ _ (by rw [hx,hy];exact hr),⟨r,rfl,hc⟩,⟨hw'.os,hw'.tape,hw'.output,hw'.size,hw'.block⟩,rfl,rfl,rfl,Nat.le_refl _,fun _ _ => rfl⟩
 ·rintro _ ⟨r,rfl,hr⟩
  exact h r hr

theorem below_drewN {B:Nat} {a w:World} (h:Below B a w) (n:Nat):Below B a (w.drewN n):=⟨h.os,h.tape,h.output,h.size,h.block⟩
end Go.Fl
