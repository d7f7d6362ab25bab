/-
  A region that draws its order, whose operations yield values of a relation (not one value): one walk of the lexical order serves every order. Conditions: the operations of the head each leave a world of a class C; calls answer by a table of contracts; the tail is one chain behind the head.
  Floats up to the bits of not-a-numbers: the word cn k x, what the operations give on such words, and laws of the walk for them (a not-a-number's bits are drawn).
  The entries of the model that the program calls.
  The functions that the program computes, on words with one not-a-number.
-/
import Derived.StillTail
import Derived.Below
import Derived.WalkKit
import Derived.WalkLawsBesides
import Derived.Deep.Draws
import Derived.Test.YtdbpgblhnhdhoaaGreatChecked
import Derived.KernelRfl
set_option linter.unusedVariables false
set_option linter.unusedSimpArgs false
namespace Go.Qr
open Go

section
variable {P : Program} {ops : Array Oper} {md : Region.Mode} {C : World → Prop} {Phi : FuncId → Array Value → Value → Prop}

/-- What is asked of what an operation comes to: a value of R and a world of C; or a call whose contract stands in the table. -/
def upon (P : Program) (C : World → Prop) (Phi : FuncId → Array Value → Value → Prop) (w : World) (R : Value → Prop) : Result Next → Prop
  | .ok (.value u) w' => (C w' ∧ Go.RowKit.Below w.heap.size w w') ∧ R u
  | .ok .skip w' => (C w' ∧ Go.RowKit.Below w.heap.size w w') ∧ R undef
  | .ok (.enter f args) w' => (C w' ∧ Go.RowKit.Below w.heap.size w w') ∧ Calls P f args w' (fun e w'' => ∃ v, e = .returned v ∧ Phi f args v ∧ C w'' ∧ Go.RowKit.Below w'.heap.size w' w'') ∧ ∀ v, Phi f args v → R v
  | _ => False

def atw (P : Program) (C : World → Prop) (Phi : FuncId → Array Value → Value → Prop) (o : Oper) (a : Act) (w : World) (R : Value → Prop) : Prop :=
  upon P C Phi w R ((execOp a.eval o).run P w)

/-- One operation: every value of R is gone on with. -/
def one (P : Program) (C : World → Prop) (Phi : FuncId → Array Value → Value → Prop) (o : Oper) (a : Act) (next : Act → Prop) : Prop :=
  ∃ R : Value → Prop, (∀ w, C w → atw P C Phi o a w R) ∧ ∀ v, R v → next (a.put o.dst v)

/-- The lexical walk of the head. -/
def walk (P : Program) (ops : Array Oper) (C : World → Prop) (Phi : FuncId → Array Value → Value → Prop) (Q : Act → Prop) : List Oper → Act → Prop
  | [], a => Q a
  | o :: rest, a => if Region.wanted o (yielded ops a.tmps) then one P C Phi o a (walk P ops C Phi Q rest) else walk P ops C Phi Q rest (a.put o.dst undef)

theorem walk_nil {Q : Act → Prop} {a : Act} (h : Q a) : walk P ops C Phi Q [] a := h
theorem walk_step {Q : Act → Prop} {a : Act} {o : Oper} {rest : List Oper}
    (h : ∀ K : Act → Prop, (∀ a, walk P ops C Phi Q rest a → K a) → if Region.wanted o (yielded ops a.tmps) then one P C Phi o a K else K (a.put o.dst undef)) : walk P ops C Phi Q (o :: rest) a :=
  h _ (fun _ h => h)

/-- The same, of an operation without a guard. -/
theorem walk_plain {Q : Act → Prop} {a : Act} {o : Oper} {rest : List Oper} (hg : o.guard = none)
    (h : ∀ K : Act → Prop, (∀ a, walk P ops C Phi Q rest a → K a) → one P C Phi o a K) : walk P ops C Phi Q (o :: rest) a := by
  refine walk_step fun K hK => ?_
  simp only [Region.wanted, hg, if_true]
  exact h K hK

/-- One operation that yields one value and leaves the world. -/
theorem one_det {o : Oper} {a : Act} {K : Act → Prop} {v : Value} (h : ∀ w, C w → (execOp a.eval o).run P w = .ok (.value v) w) (hk : K (a.put o.dst v)) : one P C Phi o a K := by
  refine ⟨fun x => x = v, fun w hw => ?_, fun x hx => by rw [hx]; exact hk⟩
  unfold atw
  rw [h w hw]
  exact ⟨⟨hw, Go.RowKit.Below.refl _ _⟩, rfl⟩

/-- One operation that yields a value of R. -/
theorem one_rel {o : Oper} {a : Act} {K : Act → Prop} (R : Value → Prop) (h : ∀ w, C w → ∃ v w', (execOp a.eval o).run P w = .ok (.value v) w' ∧ R v ∧ C w' ∧ Go.RowKit.Below w.heap.size w w') (hk : ∀ v, R v → K (a.put o.dst v)) : one P C Phi o a K := by
  refine ⟨R, fun w hw => ?_, hk⟩
  obtain ⟨v, w', e, hr, hc⟩ := h w hw
  unfold atw
  rw [e]
  exact ⟨hc, hr⟩

/-- One call. -/
theorem one_call {o : Oper} {a : Act} {K : Act → Prop} (f : FuncId) (args : Array Value) (h : ∀ w, C w → (execOp a.eval o).run P w = .ok (.enter f args) w)
    (hc : ∀ w, C w → Calls P f args w (fun e w'' => ∃ v, e = .returned v ∧ Phi f args v ∧ C w'' ∧ Go.RowKit.Below w.heap.size w w'')) (hk : ∀ v, Phi f args v → K (a.put o.dst v)) : one P C Phi o a K := by
  refine ⟨fun v => Phi f args v, fun w hw => ?_, hk⟩
  unfold atw
  rw [h w hw]
  exact ⟨⟨hw, Go.RowKit.Below.refl _ _⟩, hc w hw, fun _ h => h⟩

/-- Operation number i comes up in state a. -/
def opAt (P : Program) (ops : Array Oper) (C : World → Prop) (Phi : FuncId → Array Value → Value → Prop) (i : Nat) (K : Act → Prop) (a : Act) : Prop :=
  match ops[i]? with
  | none => K a
  | some o => if Region.wanted o (yielded ops a.tmps) then one P C Phi o a K else K (a.put o.dst undef)

theorem one_mono {o : Oper} {a : Act} {K K' : Act → Prop} (h : ∀ a, K a → K' a) (hh : one P C Phi o a K) : one P C Phi o a K' :=
  let ⟨R, h1, h2⟩ := hh
  ⟨R, h1, fun v hv => h _ (h2 v hv)⟩

theorem opAt_mono {i : Nat} {a : Act} {K K' : Act → Prop} (h : ∀ a, K a → K' a) (hh : opAt P ops C Phi i K a) : opAt P ops C Phi i K' a := by
  cases ho : ops[i]? with
  | none => simp only [opAt, ho] at hh ⊢; exact h _ hh
  | some o =>
    simp only [opAt, ho] at hh ⊢
    by_cases hw : Region.wanted o (yielded ops a.tmps) = true
    · rw [if_pos hw] at hh ⊢; exact one_mono h hh
    · rw [if_neg hw] at hh ⊢; exact h _ hh

/-- In state a, in every world of C, operation o leaves a value of R, and a world of C. -/
def Yields (P : Program) (ops : Array Oper) (C : World → Prop) (Phi : FuncId → Array Value → Value → Prop) (o : Oper) (R : Value → Prop) (a : Act) : Prop :=
  (Region.wanted o (yielded ops a.tmps) = true ∧ ∀ w, C w → atw P C Phi o a w R) ∨ (Region.wanted o (yielded ops a.tmps) = false ∧ R = fun v => v = undef)

theorem Yields.opAt {i : Nat} {o : Oper} {R : Value → Prop} {a : Act} (hi : ops[i]? = some o) (hy : Yields P ops C Phi o R a) {K : Act → Prop} (h : ∀ v, R v → K (a.put o.dst v)) : opAt P ops C Phi i K a := by
  simp only [Qr.opAt, hi]
  rcases hy with ⟨hw, hv⟩ | ⟨hw, hr⟩
  · rw [if_pos hw]; exact ⟨R, hv, h⟩
  · rw [hw, if_neg (by decide)]; exact h _ (by rw [hr])

theorem yields_of_opAt {i : Nat} {o : Oper} {a : Act} {K : Act → Prop} (hi : ops[i]? = some o) (h : opAt P ops C Phi i K a) : ∃ R, Yields P ops C Phi o R a ∧ ∀ v, R v → K (a.put o.dst v) := by
  simp only [Qr.opAt, hi] at h
  by_cases hw : Region.wanted o (yielded ops a.tmps) = true
  · rw [if_pos hw] at h
    obtain ⟨R, h1, h2⟩ := h
    exact ⟨R, .inl ⟨hw, h1⟩, h2⟩
  · rw [if_neg hw] at h
    exact ⟨fun v => v = undef, .inr ⟨by simpa using hw, rfl⟩, fun v hv => by rw [hv]; exact h⟩

/-- There is a value (as there is a world of C). -/
theorem Yields.some {o : Oper} {R : Value → Prop} {a : Act} {w0 : World} (h0 : C w0) (hy : Yields P ops C Phi o R a) : ∃ v, R v := by
  rcases hy with ⟨_, hv⟩ | ⟨_, hr⟩
  · have h := hv w0 h0
    unfold atw at h
    generalize (execOp a.eval o).run P w0 = r at h
    cases r with
    | ok n w' =>
      cases n with
      | value u => exact ⟨u, h.2⟩
      | skip => exact ⟨_, h.2⟩
      | enter f args =>
        obtain ⟨e, w'', fr, ⟨v, _, hp, _, _⟩, _⟩ := h.2.1 []
        exact ⟨v, h.2.2 v hp⟩
      | _ => exact h.elim
    | halt x w' => exact h.elim
  · exact ⟨undef, by rw [hr]⟩

theorem atw_inter {o : Oper} {a : Act} {w : World} {I : Type} (i0 : I) {R : I → Value → Prop} (h : ∀ i, atw P C Phi o a w (R i)) : atw P C Phi o a w (fun v => ∀ i, R i v) := by
  unfold atw at h ⊢
  generalize (execOp a.eval o).run P w = r at h
  cases r with
  | ok n w' =>
    cases n with
    | value u => exact ⟨(h i0).1, fun i => (h i).2⟩
    | skip => exact ⟨(h i0).1, fun i => (h i).2⟩
    | enter f args => exact ⟨(h i0).1, (h i0).2.1, fun v hv i => (h i).2.2 v hv⟩
    | _ => exact (h i0).elim
  | halt x w' => exact (h i0).elim

theorem Yields.of_same {o : Oper} {R : Value → Prop} {a a' : Act} (hy : Yields P ops C Phi o R a) (he : execOp a'.eval o = execOp a.eval o)
    (hw : Region.wanted o (yielded ops a'.tmps) = Region.wanted o (yielded ops a.tmps)) : Yields P ops C Phi o R a' := by
  unfold Yields atw at *
  rw [he, hw]
  exact hy

/-- An operation oj apart from oi may come first. -/
theorem opAt_put {j : Nat} {oi oj : Oper} {R : Value → Prop} (hj : ops[j]? = some oj) (hap : oi.apart ops oj = true)
    (hsi : ∀ cs b, oi.op ≠ .select cs b) (hsj : ∀ cs b, oj.op ≠ .select cs b) {w0 : World} (h0 : C w0) {K : Act → Prop} {a : Act}
    (hy : Yields P ops C Phi oi R a) (h : ∀ v, R v → opAt P ops C Phi j K (a.put oi.dst v)) :
    opAt P ops C Phi j (fun a' => Yields P ops C Phi oi R a' ∧ ∀ v, R v → K (a'.put oi.dst v)) a := by
  obtain ⟨h1, h2, h3⟩ := Oper.apart_spec hap
  have keep : ∀ u, Yields P ops C Phi oi R (a.put oj.dst u) := fun u => hy.of_same (execOp_put oi hsi a oj.dst u h3) (wanted_put oi a oj.dst u h3)
  obtain ⟨v0, hv0⟩ := hy.some h0
  simp only [Qr.opAt, hj] at h ⊢
  by_cases hw : Region.wanted oj (yielded ops a.tmps) = true
  · rw [if_pos hw]
    have hx : ∀ x : {v // R v}, ∃ S : Value → Prop, (∀ w, C w → atw P C Phi oj a w S) ∧ ∀ u, S u → K ((a.put oi.dst x.1).put oj.dst u) := fun x => by
      have hh := h x.1 x.2
      rw [wanted_put oj a oi.dst x.1 h1, if_pos hw] at hh
      obtain ⟨S, s1, s2⟩ := hh
      refine ⟨S, fun w hw' => ?_, s2⟩
      have := s1 w hw'
      unfold atw at this ⊢
      rwa [execOp_put oj hsj a oi.dst x.1 h1] at this
    have hS := fun x => Classical.choose_spec (hx x)
    refine ⟨fun u => ∀ x : {v // R v}, Classical.choose (hx x) u, fun w hw' => atw_inter ⟨v0, hv0⟩ fun x => (hS x).1 w hw', fun u hu => ⟨keep u, fun v hv => ?_⟩⟩
    rw [← Act.put_comm a v u h2]
    exact (hS ⟨v, hv⟩).2 u (hu ⟨v, hv⟩)
  · rw [if_neg hw]
    refine ⟨keep _, fun v hv => ?_⟩
    have hh := h v hv
    rw [wanted_put oj a oi.dst v h1, if_neg hw] at hh
    rw [← Act.put_comm a v undef h2]
    exact hh

/-- Whatever order is picked in the head. -/
def anyOrder (P : Program) (md : Region.Mode) (ops : Array Oper) (C : World → Prop) (Phi : FuncId → Array Value → Value → Prop) (n : Nat) (L : Array Bool → Act → Prop) : Nat → Array Bool → Act → Prop
  | 0, listed, a => L listed a
  | f + 1, listed, a =>
    Region.ready md ops listed ≠ [] ∧ ∀ i ∈ Region.ready md ops listed, i < n ∧ opAt P ops C Phi i (anyOrder P md ops C Phi n L f (listed.setIfInBounds i true)) a

theorem wp_of_one {o : Oper} {a : Act} {K : Act → Prop} {K' : Act → World → Prop} {Q' : Exit → Act → World → Prop} {w : World} (hw : C w) (h : ∀ a w', C w' → K a → K' a w') (hh : one P C Phi o a K) : o.wp P a w K' Q' := by
  obtain ⟨R, h1, h2⟩ := hh
  have h3 := h1 w hw
  unfold atw at h3
  unfold Oper.wp
  generalize (execOp a.eval o).run P w = r at h3 ⊢
  cases r with
  | ok n w' =>
    cases n with
    | value u => exact h _ _ h3.1.1 (h2 u h3.2)
    | skip => exact h _ _ h3.1.1 (h2 _ h3.2)
    | enter f args => exact h3.2.1.mono fun e w'' ⟨v, he, hp, hc, _⟩ => by subst he; exact h _ _ hc (h2 v (h3.2.2 v hp))
    | _ => exact h3.elim
  | halt x w' => exact h3.elim

theorem wpOp_of_opAt {i : Nat} {a : Act} {K : Act → Prop} {K' : Act → World → Prop} {Q' : Exit → Act → World → Prop} {w : World} (hC : C w) (h : ∀ a w', C w' → K a → K' a w') (hh : opAt P ops C Phi i K a) : wpOp P ops Q' i K' a w := by
  unfold wpOp
  cases ho : ops[i]? with
  | none => simp only [opAt, ho] at hh; exact h _ _ hC hh
  | some o =>
    simp only [opAt, ho] at hh ⊢
    by_cases hw : Region.wanted o (yielded ops a.tmps) = true
    · rw [if_pos hw] at hh; rw [if_pos hw]; exact .inl (wp_of_one hC h hh)
    · rw [if_neg hw] at hh; rw [if_neg hw]; exact h _ _ hC hh

theorem wpAny_of_anyOrder {n g : Nat} {L : Array Bool → Act → Prop} {Q' : Exit → Act → World → Prop} (hL : ∀ listed a w, C w → L listed a → wpAny P md ops Q' g listed a w) :
    ∀ (f : Nat) (listed : Array Bool) (a : Act) (w : World), C w → anyOrder P md ops C Phi n L f listed a → wpAny P md ops Q' (f + g) listed a w
  | 0, listed, a, w, hw, h => by rw [Nat.zero_add]; exact hL _ _ _ hw h
  | f + 1, listed, a, w, hw, h => by
    rw [show f + 1 + g = (f + g) + 1 by omega]
    exact ⟨fun h0 => absurd h0 h.1, fun i hi => wpOp_of_opAt hw (fun a' w' hw' h' => wpAny_of_anyOrder hL f _ a' w' hw' h') (h.2 i hi).2⟩

/-- What may come up now may be taken first. -/
theorem anyOrder_first {n i : Nat} {oi : Oper} {R : Value → Prop} {L : Array Bool → Act → Prop} (hi : ops[i]? = some oi) (hsel : ∀ (j : Nat) (o : Oper) cs b, ops[j]? = some o → o.op ≠ .select cs b)
    (hw : ∀ listed, HeadInv md ops n listed → ∀ i, i < n → listed.getD i true = false → ∀ t, n ≤ t → t ∉ Region.ready md ops listed) (hin : i < n) {w0 : World} (h0 : C w0)
    (hdone : ∀ listed a, L listed a → ∀ j ∈ Region.ready md ops listed, n ≤ j) :
    ∀ (f : Nat) (listed : Array Bool) (a : Act), HeadInv md ops n listed →
      (∀ j oj, ops[j]? = some oj → j ≠ i → listed.getD j true = false → (∀ e ∈ oj.after, Region.binds md e = true → e.on ≠ i) → oi.apart ops oj = true) →
      i ∈ Region.ready md ops listed → Yields P ops C Phi oi R a →
      (∀ v, R v → anyOrder P md ops C Phi n L f (listed.setIfInBounds i true) (a.put oi.dst v)) → anyOrder P md ops C Phi n L (f + 1) listed a := by
  intro f
  induction f with
  | zero =>
    intro listed a inv _ hr hy H
    have hun := (mem_ready.1 hr).1
    refine ⟨fun h => (by rw [h] at hr; cases hr), fun j hj => ?_⟩
    have hjn : j < n := Nat.lt_of_not_le fun h => hw _ inv i hin hun j h hj
    refine ⟨hjn, ?_⟩
    by_cases hji : j = i
    · subst hji; exact hy.opAt hi H
    · obtain ⟨v, hv⟩ := hy.some h0
      exact absurd (hdone _ _ (H v hv) j (ready_mono hj hji)) (by omega)
  | succ f ih =>
    intro listed a inv hfree hr hy H
    have hun := (mem_ready.1 hr).1
    refine ⟨fun h => (by rw [h] at hr; cases hr), fun j hj => ?_⟩
    have hjn : j < n := Nat.lt_of_not_le fun h => hw _ inv i hin hun j h hj
    refine ⟨hjn, ?_⟩
    by_cases hji : j = i
    · subst hji; exact hy.opAt hi H
    · have h1 := fun v hv => ((H v hv).2 j (ready_mono hj hji)).2
      obtain ⟨hjun, oj, hoj, hall⟩ := mem_ready.1 hj
      have hnot : ∀ e ∈ oj.after, Region.binds md e = true → e.on ≠ i := fun e he hb heq => by
        have h1 := hall e he hb
        rw [heq, getD_both hun] at h1
        cases h1
      have h2 := opAt_put hoj (hfree j oj hoj hji hjun hnot) (fun cs b => hsel i oi cs b hi) (fun cs b => hsel j oj cs b hoj) h0 hy h1
      have hfree' : ∀ k ok, ops[k]? = some ok → k ≠ i → (listed.setIfInBounds j true).getD k true = false →
          (∀ e ∈ ok.after, Region.binds md e = true → e.on ≠ i) → oi.apart ops ok = true := fun k ok hk hki hun hno => by
        refine hfree k ok hk hki ?_ hno
        by_cases hjk : j = k
        · subst hjk; exact hjun
        · rw [getD_set_ne true hjk] at hun; exact hun
      refine opAt_mono (fun a' h3 => ih (listed.setIfInBounds j true) a' (inv.set hj hjn) hfree' (ready_mono hr (Ne.symm hji)) h3.1 fun v hv => ?_) h2
      rw [Array.setIfInBounds_comm _ _ hji]
      exact h3.2 v hv

theorem anyOrder_lex {n g : Nat} {Lq : Act → Prop} (hsel : Region.noSelect ops = true) (hw : ∀ listed, HeadInv md ops n listed → ∀ i, i < n → listed.getD i true = false → ∀ t, n ≤ t → t ∉ Region.ready md ops listed) {w0 : World} (h0 : C w0) :
    ∀ (l : List Oper) (k : Nat) (listed : Array Bool) (a : Act), (∀ j, j < l.length → l[j]? = ops[k + j]?) → k + l.length = n → HeadInv md ops n listed →
    Region.lexHead md ops g l.length k listed = true → walk P ops C Phi Lq l a →
    anyOrder P md ops C Phi n (fun listed' a' => Region.seqB md ops g n listed' = true ∧ Lq a') l.length listed a
  | [], k, listed, a, _, hk, _, hB, h => by
    obtain rfl : k = n := by simpa using hk
    exact ⟨by simpa [Region.lexHead] using hB, h⟩
  | o :: l, k, listed, a, hl, hk, inv, hB, h => by
    have ho : ops[k]? = some o := by simpa using (hl 0 (by simp)).symm
    simp only [List.length_cons, Region.lexHead, Bool.and_eq_true] at hB
    obtain ⟨⟨hr, hf⟩, hB'⟩ := hB
    have hkn : k < n := by simp only [List.length_cons] at hk; omega
    have hr' : k ∈ Region.ready md ops listed := by simpa using hr
    have hst : opAt P ops C Phi k (walk P ops C Phi Lq l) a := by unfold opAt; simp only [ho]; exact h
    obtain ⟨R, hy, hK⟩ := yields_of_opAt ho hst
    exact anyOrder_first ho (Region.noSelect_spec hsel) hw hkn h0 (fun listed' a' hL => seqB_ready hL.1) l.length listed a inv (Region.free_spec ho hf) hr' hy
      fun v hv => anyOrder_lex hsel hw h0 l (k + 1) _ _ (fun j hj => by have := hl (j + 1) (by simp; omega); simpa [Nat.add_assoc, Nat.add_comm 1 j] using this) (by simp only [List.length_cons] at hk; omega) (inv.set hr' hkn) hB' (hK v hv)

/-- THE REGION: the head of n operations in the lexical order, in the class C; then the tail, in every world of C. -/
theorem wp_region {id : Nat} {Q : Exit → Act → World → Prop} {a : Act} {w : World} {l : List Oper} (n : Nat) (hm : P.follows .mixedOrders = true) (hB : Region.lexTailB .any l.toArray n = true)
    (C : World → Prop) (Phi : FuncId → Array Value → Value → Prop) (hC : C { w with drawn := w.drawn + 1 })
    (h : walk P l.toArray C Phi (fun a' => ∀ w', C w' → wpList P l.toArray Q (l.drop n) a' w') (l.take n) a) : (Code.region id l.toArray true).wp P Q a w := by
  simp only [Region.lexTailB, Bool.and_eq_true, decide_eq_true_eq] at hB
  obtain ⟨⟨⟨⟨hsel, hn⟩, hs⟩, hc⟩, hlex⟩ := hB
  have hn' : n < l.length := by simpa using hn
  have htl : (l.take n).length = n := by simp; omega
  have hdl : (l.drop n).length = l.toArray.size - n := by simp
  have inv0 : HeadInv .any l.toArray n (Array.replicate l.toArray.size false) :=
    ⟨by simp, fun j oj _ hl => (by rw [getD_replicate_false] at hl; cases hl), fun t _ ht => getD_in (by simpa using ht) (getD_replicate_false _ _)⟩
  have H := anyOrder_lex (md := .any) (g := l.toArray.size - n) hsel (fun listed inv i hi hun => tail_waits hs hc hn inv _ i rfl hi hun) hC (l.take n) 0 _ a (fun j hj => by
    have hj' : j < n := by rw [htl] at hj; exact hj
    simp [hj']) (by simpa using htl) inv0 (by rw [htl]; exact hlex) h
  refine wp_region_any hm ?_
  have := wpAny_of_anyOrder (Q' := Q) (g := l.toArray.size - n) (fun listed a' w' hw' hL => by
    have := wpAny_of_seq (md := .any) (Q' := Q) (l.drop n) n listed a' w' (fun j => by simp [List.getElem?_drop]) (by rw [hdl]; exact hL.1) (hL.2 w' hw')
    rwa [hdl] at this) _ _ _ _ hC H
  rw [htl, show n + (l.toArray.size - n) = l.toArray.size by omega] at this
  exact this

/-- A region all of whose operations are of the head. -/
theorem wp_region_all {id : Nat} {Q : Exit → Act → World → Prop} {a : Act} {w : World} {l : List Oper} (hm : P.follows .mixedOrders = true)
    (hB : (Region.noSelect l.toArray && Region.lexHead .any l.toArray 0 l.length 0 (Array.replicate l.toArray.size false)) = true)
    (C : World → Prop) (Phi : FuncId → Array Value → Value → Prop) (hC : C { w with drawn := w.drawn + 1 })
    (h : walk P l.toArray C Phi (fun a' => ∀ w', C w' → Q .normal a' w') l a) : (Code.region id l.toArray true).wp P Q a w := by
  simp only [Bool.and_eq_true] at hB
  obtain ⟨hsel, hlex⟩ := hB
  have inv0 : HeadInv .any l.toArray l.length (Array.replicate l.toArray.size false) :=
    ⟨by simp, fun j oj _ hl => (by rw [getD_replicate_false] at hl; cases hl), fun t _ ht => getD_in (by simpa using ht) (getD_replicate_false _ _)⟩
  have H := anyOrder_lex (md := .any) (g := 0) hsel (fun listed inv i hi hun t ht hr => by
    obtain ⟨_, o, ho, _⟩ := mem_ready.1 hr
    have := (Array.getElem?_eq_some_iff.1 ho).1
    simp at this
    omega) hC l 0 _ a (fun j hj => by simp) (by simp) inv0 hlex h
  refine wp_region_any hm ?_
  have := wpAny_of_anyOrder (Q' := Q) (g := 0) (fun listed a' w' hw' hL => (by
    refine ⟨by have := hL.1; simpa [Region.seqB] using this, hL.2 w' hw'⟩ : wpAny P .any l.toArray Q 0 listed a' w')) _ _ _ _ hC H
  simpa using this

theorem wp_below_all {id : Nat} {Q : Exit → Act → World → Prop} {a : Act} {w : World} {l : List Oper} (hm : P.follows .mixedOrders = true)
    (hB : (Region.noSelect l.toArray && Region.lexHead .any l.toArray 0 l.length 0 (Array.replicate l.toArray.size false)) = true)
    (Phi : FuncId → Array Value → Value → Prop)
    (h : walk P l.toArray (fun w' => Go.RowKit.Below w.heap.size w w') Phi (fun a' => ∀ w', Go.RowKit.Below w.heap.size w w' → Q .normal a' w') l a) : (Code.region id l.toArray true).wp P Q a w :=
  wp_region_all hm hB _ Phi ((Go.RowKit.Below.refl _ _).drew) h

/-- The same, in the class of the worlds in which nothing of what was there has turned. -/
theorem wp_below {id : Nat} {Q : Exit → Act → World → Prop} {a : Act} {w : World} {l : List Oper} (n : Nat) (hm : P.follows .mixedOrders = true) (hB : Region.lexTailB .any l.toArray n = true)
    (Phi : FuncId → Array Value → Value → Prop)
    (h : walk P l.toArray (fun w' => Go.RowKit.Below w.heap.size w w') Phi (fun a' => ∀ w', Go.RowKit.Below w.heap.size w w' → wpList P l.toArray Q (l.drop n) a' w') (l.take n) a) : (Code.region id l.toArray true).wp P Q a w :=
  wp_region n hm hB _ Phi ((Go.RowKit.Below.refl _ _).drew) h

/-- What an operation has come to. -/
def came (P : Program) (o : Oper) (a : Act) (w : World) (v : Value) (w' : World) : Prop :=
  Go.RowKit.Below w.heap.size w w' ∧ ((execOp a.eval o).run P w = .ok (.value v) w' ∨ (∃ f args w1, (execOp a.eval o).run P w = .ok (.enter f args) w1) ∨ (∃ w1, (execOp a.eval o).run P w = .ok .skip w1))

/-- .. with a word E on the frame and the world, that every operation hands on. -/
theorem wp_of_oneE {E : Act → World → Prop} {o : Oper} {a : Act} {K : Act → Prop} {K' : Act → World → Prop} {Q' : Exit → Act → World → Prop} {w : World} (hw : C w)
    (hE : ∀ v w', came P o a w v w' → E (a.put o.dst v) w') (h : ∀ v w', C w' → E (a.put o.dst v) w' → K (a.put o.dst v) → K' (a.put o.dst v) w') (hh : one P C Phi o a K) : o.wp P a w K' Q' := by
  obtain ⟨R, h1, h2⟩ := hh
  have h3 := h1 w hw
  unfold atw at h3
  unfold came at hE
  unfold Oper.wp
  generalize (execOp a.eval o).run P w = r at h3 hE ⊢
  cases r with
  | ok n w' =>
    cases n with
    | value u => exact h _ _ h3.1.1 (hE _ _ ⟨h3.1.2, .inl rfl⟩) (h2 u h3.2)
    | skip => exact h _ _ h3.1.1 (hE _ _ ⟨h3.1.2, .inr (.inr ⟨_, rfl⟩)⟩) (h2 _ h3.2)
    | enter f args => exact h3.2.1.mono fun e w'' ⟨v, he, hp, hc, hl⟩ => by subst he; exact h _ _ hc (hE _ _ ⟨h3.1.2.trans (hl.mono h3.1.2.size), .inr (.inl ⟨f, args, w', rfl⟩)⟩) (h2 v (h3.2.2 v hp))
    | _ => exact h3.elim
  | halt x w' => exact h3.elim

theorem wpAny_of_anyOrderE {E : Act → World → Prop} {n g : Nat} {L : Array Bool → Act → Prop} {Q' : Exit → Act → World → Prop} (hL : ∀ listed a w, C w → E a w → L listed a → wpAny P md ops Q' g listed a w)
    (hE : ∀ i o a w v w', i < n → ops[i]? = some o → C w → E a w → came P o a w v w' → E (a.put o.dst v) w') (hg : ∀ i o, i < n → ops[i]? = some o → o.guard = none) :
    ∀ (f : Nat) (listed : Array Bool) (a : Act) (w : World), C w → E a w → anyOrder P md ops C Phi n L f listed a → wpAny P md ops Q' (f + g) listed a w
  | 0, listed, a, w, hw, he, h => by rw [Nat.zero_add]; exact hL _ _ _ hw he h
  | f + 1, listed, a, w, hw, he, h => by
    rw [show f + 1 + g = (f + g) + 1 by omega]
    refine ⟨fun h0 => absurd h0 h.1, fun i hi => ?_⟩
    obtain ⟨hin, hop⟩ := h.2 i hi
    unfold wpOp
    cases ho : ops[i]? with
    | none =>
      obtain ⟨_, o, ho', _⟩ := mem_ready.1 hi
      rw [ho] at ho'; cases ho'
    | some o =>
      simp only [opAt, ho] at hop ⊢
      have hwn : Region.wanted o (yielded ops a.tmps) = true := by simp [Region.wanted, hg i o hin ho]
      rw [if_pos hwn] at hop; rw [if_pos hwn]
      exact .inl (wp_of_oneE hw (fun v w' hc => hE i o a w v w' hin ho hw he hc) (fun v w' hw' he' hk => wpAny_of_anyOrderE hL hE hg f _ _ w' hw' he' hk) hop)

/-- THE REGION, with such a word. -/
theorem wp_regionE {id : Nat} {Q : Exit → Act → World → Prop} {a : Act} {w : World} {l : List Oper} (n : Nat) (hm : P.follows .mixedOrders = true) (hB : Region.lexTailB .any l.toArray n = true)
    (C : World → Prop) (Phi : FuncId → Array Value → Value → Prop) (E : Act → World → Prop) (hC : C { w with drawn := w.drawn + 1 }) (hE0 : E a { w with drawn := w.drawn + 1 })
    (hE : ∀ i o a w v w', i < n → l[i]? = some o → C w → E a w → came P o a w v w' → E (a.put o.dst v) w') (hg : ((l.take n).all fun o => o.guard.isNone) = true)
    (h : walk P l.toArray C Phi (fun a' => ∀ w', C w' → E a' w' → wpList P l.toArray Q (l.drop n) a' w') (l.take n) a) : (Code.region id l.toArray true).wp P Q a w := by
  simp only [Region.lexTailB, Bool.and_eq_true, decide_eq_true_eq] at hB
  obtain ⟨⟨⟨⟨hsel, hn⟩, hs⟩, hc⟩, hlex⟩ := hB
  have hn' : n < l.length := by simpa using hn
  have htl : (l.take n).length = n := by simp; omega
  have hdl : (l.drop n).length = l.toArray.size - n := by simp
  have inv0 : HeadInv .any l.toArray n (Array.replicate l.toArray.size false) :=
    ⟨by simp, fun j oj _ hl => (by rw [getD_replicate_false] at hl; cases hl), fun t _ ht => getD_in (by simpa using ht) (getD_replicate_false _ _)⟩
  have H := anyOrder_lex (md := .any) (g := l.toArray.size - n) hsel (fun listed inv i hi hun => tail_waits hs hc hn inv _ i rfl hi hun) hC (l.take n) 0 _ a (fun j hj => by
    have hj' : j < n := by rw [htl] at hj; exact hj
    simp [hj']) (by simpa using htl) inv0 (by rw [htl]; exact hlex) h
  refine wp_region_any hm ?_
  have := wpAny_of_anyOrderE (Q' := Q) (E := E) (g := l.toArray.size - n) (fun listed a' w' hw' he hL => by
    have := wpAny_of_seq (md := .any) (Q' := Q) (l.drop n) n listed a' w' (fun j => by simp [List.getElem?_drop]) (by rw [hdl]; exact hL.1) (hL.2 w' hw' he)
    rwa [hdl] at this) (fun i o a w v w' hi ho => hE i o a w v w' hi (by simpa using ho)) (fun i o hi ho => by
      have h1 := List.all_eq_true.1 hg o (List.mem_of_getElem? (i := i) (by rw [List.getElem?_take, if_pos hi]; simpa using ho))
      exact Option.isNone_iff_eq_none.1 h1) _ _ _ _ hC hE0 H
  rw [htl, show n + (l.toArray.size - n) = l.toArray.size by omega] at this
  exact this

/-- Slot d, once it is a pointer, points to a new block of these cells. -/
def Made (W : World) (d : Tmp) (zs : Array Value) (T : TypeId) (a : Act) (w : World) : Prop :=
  ∀ p, a.tmps.getD d undef = .pointer p → ∃ g, p = some ⟨g, 0, none⟩ ∧ W.heap.size ≤ g ∧ w.heap[g]? = some (.cells zs T (0, 0))

theorem getD_put (a : Act) (x : Option Tmp) (v : Value) (d : Tmp) (h : x ≠ some d) : (a.put x v).tmps.getD d undef = a.tmps.getD d undef := by
  cases x with
  | none => rfl
  | some y =>
    have hy : y ≠ d := fun e => h (by rw [e])
    simp only [Act.put, Array.getD_eq_getD_getElem?]
    rw [Array.getElem?_setIfInBounds_ne hy]

/-- THE REGION with one new variable, made by operation m, in slot d. -/
theorem wp_made {id : Nat} {Q : Exit → Act → World → Prop} {a : Act} {w : World} {l : List Oper} (n m : Nat) (d : Tmp) (zs : Array Value) (T : TypeId) (hm : P.follows .mixedOrders = true) (hB : Region.lexTailB .any l.toArray n = true)
    (Phi : FuncId → Array Value → Value → Prop) (h0 : a.tmps.getD d undef = undef) (hd : ((List.range n).all fun i => i == m || ((l[i]?).bind (·.dst)) != some d) = true)
    (hop : ∃ om, l[m]? = some om ∧ om.dst = some d ∧ ∀ (a : Act) (w : World), (execOp a.eval om).run P w = .ok (.value (.pointer (some ⟨w.heap.size, 0, none⟩))) (w.alloc (.cells zs T)))
    (hg : ((l.take n).all fun o => o.guard.isNone) = true)
    (h : walk P l.toArray (fun w' => Go.RowKit.Below w.heap.size w w') Phi (fun a' => ∀ w', Go.RowKit.Below w.heap.size w w' → Made w d zs T a' w' → wpList P l.toArray Q (l.drop n) a' w') (l.take n) a) : (Code.region id l.toArray true).wp P Q a w := by
  refine wp_regionE n hm hB _ Phi (Made w d zs T) ((Go.RowKit.Below.refl _ _).drew) (fun p hp => by rw [h0] at hp; cases hp) ?_ hg h
  intro i o a' w1 v w2 hi ho hw1 hE hc
  by_cases him : i = m
  · subst him
    obtain ⟨om, hom, hdst, hrun⟩ := hop
    have : o = om := Option.some.inj (ho.symm.trans hom)
    subst this
    unfold came at hc
    rw [hrun] at hc
    rcases hc.2 with hc | ⟨f, args, w3, hc⟩ | ⟨w3, hc⟩
    · injection hc with e1 e2
      injection e1 with e1
      subst e1; subst e2
      intro p hp
      by_cases hlt : d < a'.tmps.size
      · rw [hdst] at hp
        simp only [Act.put, Array.getD_eq_getD_getElem?] at hp
        rw [Array.getElem?_setIfInBounds_self_of_lt hlt] at hp
        simp only [Option.getD_some] at hp
        injection hp with hp
        exact ⟨w1.heap.size, hp.symm, hw1.size, by show (w1.heap.push _)[w1.heap.size]? = _; simp⟩
      · rw [hdst] at hp
        simp only [Act.put, Array.getD_eq_getD_getElem?] at hp
        rw [Array.getElem?_eq_none (by rw [Array.size_setIfInBounds]; exact Nat.le_of_not_lt hlt)] at hp
        cases hp
    · cases hc
    · cases hc
  · have hne : o.dst ≠ some d := by
      have h1 := List.all_eq_true.1 hd i (List.mem_range.2 hi)
      simp only [ho, Bool.or_eq_true, beq_iff_eq, bne_iff_ne, Option.bind_some] at h1
      rcases h1 with h1 | h1
      · exact absurd h1 him
      · exact h1
    have hle : Go.RowKit.Below w1.heap.size w1 w2 := hc.1
    intro p hp
    rw [getD_put _ _ _ _ hne] at hp
    obtain ⟨g, hg1, hg2, hg3⟩ := hE p hp
    refine ⟨g, hg1, hg2, ?_⟩
    have hlt : g < w1.heap.size := by
      rcases Nat.lt_or_ge g w1.heap.size with h' | h'
      · exact h'
      · rw [Array.getElem?_eq_none h'] at hg3; cases hg3
    rw [hle.block g hlt]; exact hg3

/-- The class: below block B nothing has turned. -/
theorem drawn_below {B : Nat} {w w' : World} (h : Go.RowKit.Below B w w') : Go.RowKit.Below B w { w' with drawn := w'.drawn + 1 } := h.drew
end
end Go.Qr

namespace Go.Fl
open Go Go.RowKit

/-- The word that stands for all not-a-numbers. -/
def nanw : FloatKind → Nat
  | .f32 => 2143289344
  | .f64 => 9221120237041090560

/-- A word, all not-a-numbers made one. -/
def cn (k : FloatKind) (x : Nat) : Nat := if (k.decode x).isNaN then nanw k else x

theorem nan_nanw (k : FloatKind) : (k.decode (nanw k)).isNaN = true := by cases k <;> decide +kernel

theorem isNaN_cn (k : FloatKind) (x : Nat) : (k.decode (cn k x)).isNaN = (k.decode x).isNaN := by
  unfold cn
  split
  · rename_i h; rw [nan_nanw, h]
  · rfl

theorem cn_of_not {k : FloatKind} {x : Nat} (h : (k.decode x).isNaN = false) : cn k x = x := by unfold cn; rw [h]; rfl
theorem cn_of_nan {k : FloatKind} {x : Nat} (h : (k.decode x).isNaN = true) : cn k x = nanw k := by unfold cn; rw [h]; rfl
theorem cn_cn (k : FloatKind) (x : Nat) : cn k (cn k x) = cn k x := by
  cases h : (k.decode x).isNaN
  · rw [cn_of_not h, cn_of_not h]
  · rw [cn_of_nan h, cn_of_nan (nan_nanw k)]

theorem isNaN_cases {d : Ieee.Datum} (h : d.isNaN = true) : ∃ s t, d = .nan s t := by
  cases d with
  | nan s t => exact ⟨s, t, rfl⟩
  | _ => cases h

theorem sum_nan_l {d e : Ieee.Datum} (h : d.isNaN = true) : d.sum e = none := by obtain ⟨s, t, rfl⟩ := isNaN_cases h; cases e <;> rfl
theorem sum_nan_r {d e : Ieee.Datum} (h : e.isNaN = true) : d.sum e = none := by obtain ⟨s, t, rfl⟩ := isNaN_cases h; cases d <;> rfl
theorem opp_nan {d : Ieee.Datum} : d.opposite.isNaN = d.isNaN := by cases d <;> rfl
theorem product_nan_l {d e : Ieee.Datum} (h : d.isNaN = true) : d.product e = none := by obtain ⟨s, t, rfl⟩ := isNaN_cases h; cases e <;> rfl
theorem product_nan_r {d e : Ieee.Datum} (h : e.isNaN = true) : d.product e = none := by obtain ⟨s, t, rfl⟩ := isNaN_cases h; cases d <;> rfl
theorem quotient_nan_l {n : Nat} {d e : Ieee.Datum} (h : d.isNaN = true) : d.quotient n e = none := by obtain ⟨s, t, rfl⟩ := isNaN_cases h; cases e <;> rfl
theorem quotient_nan_r {n : Nat} {d e : Ieee.Datum} (h : e.isNaN = true) : d.quotient n e = none := by obtain ⟨s, t, rfl⟩ := isNaN_cases h; cases d <;> rfl
theorem order_nan_l {d e : Ieee.Datum} (h : d.isNaN = true) : d.order e = none := by obtain ⟨s, t, rfl⟩ := isNaN_cases h; cases e <;> rfl
theorem order_nan_r {d e : Ieee.Datum} (h : e.isNaN = true) : d.order e = none := by obtain ⟨s, t, rfl⟩ := isNaN_cases h; cases d <;> rfl
theorem root_nan {n : Nat} {d : Ieee.Datum} (h : d.isNaN = true) : d.root n = none := by obtain ⟨s, t, rfl⟩ := isNaN_cases h; rfl

theorem decode_eq (k : FloatKind) (x : Nat) : k.decode x = k.format.read x := rfl

/-- A function of two data that is the same at all not-a-numbers. -/
theorem two_cn {α : Type} (k : FloatKind) (f : Ieee.Datum → Ieee.Datum → α) (z : α) (hl : ∀ d e, d.isNaN = true → f d e = z) (hr : ∀ d e, e.isNaN = true → f d e = z) (x y : Nat) :
    f (k.format.read (cn k x)) (k.format.read (cn k y)) = f (k.format.read x) (k.format.read y) := by
  cases hx : (k.decode x).isNaN
  · cases hy : (k.decode y).isNaN
    · rw [cn_of_not hx, cn_of_not hy]
    · rw [hr _ _ (by rw [← decode_eq, isNaN_cn]; exact hy), hr _ (k.format.read y) hy]
  · rw [hl _ _ (by rw [← decode_eq, isNaN_cn]; exact hx), hl (k.format.read x) _ hx]

theorem floatBits_cn (op : BinOp) (k : FloatKind) (x y : Nat) : floatBits op k (cn k x) (cn k y) = floatBits op k x y := by
  unfold floatBits
  cases op <;> try rfl
  · exact two_cn k (fun d e => (d.sum e).map k.format.write) none (fun d e h => by rw [sum_nan_l h]; rfl) (fun d e h => by rw [sum_nan_r h]; rfl) x y
  · exact two_cn k (fun d e => (d.sum e.opposite).map k.format.write) none (fun d e h => by rw [sum_nan_l h]; rfl) (fun d e h => by rw [sum_nan_r (by rw [opp_nan]; exact h)]; rfl) x y
  · exact two_cn k (fun d e => (d.product e).map k.format.write) none (fun d e h => by rw [product_nan_l h]; rfl) (fun d e h => by rw [product_nan_r h]; rfl) x y
  · exact two_cn k (fun d e => (d.quotient (k.format.fractionBits + 2) e).map k.format.write) none (fun d e h => by rw [quotient_nan_l h]; rfl) (fun d e h => by rw [quotient_nan_r h]; rfl) x y

theorem order_cn (k : FloatKind) (x y : Nat) : k.format.order (cn k x) (cn k y) = k.format.order x y :=
  two_cn k (fun d e => d.order e) none (fun _ _ h => order_nan_l h) (fun _ _ h => order_nan_r h) x y

/-- What a written number or infinity reads as is no not-a-number. -/
theorem read_word (f : Ieee.Format) (neg : Bool) (r : Nat) (h : r ≤ f.infRung) : (f.read (f.word neg r)).isNaN = false := by
  have hlt : r < f.signWeight := Nat.lt_of_le_of_lt h (Ieee.Format.infRung_lt f)
  have hm : f.word neg r % f.signWeight = r := by
    unfold Ieee.Format.word
    split
    · rw [Nat.add_mod_left]; exact Nat.mod_eq_of_lt hlt
    · exact Nat.mod_eq_of_lt hlt
  unfold Ieee.Format.read
  simp only [hm]
  split
  · rfl
  · split
    · rfl
    · split
      · rfl
      · omega

theorem nearest_not (f : Ieee.Format) (neg : Bool) (m : Nat) (e : Int) : (f.read (f.nearest neg m e)).isNaN = false := by
  unfold Ieee.Format.nearest
  split
  · exact read_word f neg 0 (Nat.zero_le _)
  · exact read_word f neg _ (Nat.min_le_right _ _)

theorem write_not (f : Ieee.Format) {d : Ieee.Datum} (h : d.isNaN = false) : (f.read (f.write d)).isNaN = false := by
  cases d with
  | number s m e => exact nearest_not f s m e
  | infinity s => exact read_word f s _ (Nat.le_refl _)
  | nan s t => cases h

theorem sum_not {d e r : Ieee.Datum} (h : d.sum e = some r) : r.isNaN = false := by
  cases d <;> cases e <;> simp only [Ieee.Datum.sum] at h <;> first | (cases h; done) | (cases h; rfl) | (split at h <;> cases h <;> rfl)
theorem product_not {d e r : Ieee.Datum} (h : d.product e = some r) : r.isNaN = false := by
  cases d <;> cases e <;> simp only [Ieee.Datum.product] at h <;> first | (cases h; done) | (cases h; rfl) | (split at h <;> cases h <;> rfl)
theorem quotient_not {n : Nat} {d e r : Ieee.Datum} (h : d.quotient n e = some r) : r.isNaN = false := by
  cases d <;> cases e <;> simp only [Ieee.Datum.quotient] at h <;> first | (cases h; done) | (cases h; rfl) | (split at h <;> (try split at h) <;> cases h <;> rfl)
theorem root_not {n : Nat} {d r : Ieee.Datum} (h : d.root n = some r) : r.isNaN = false := by
  cases d <;> simp only [Ieee.Datum.root] at h <;> first | (cases h; done) | (cases h; rfl) | (split at h <;> (try split at h) <;> cases h <;> rfl)

theorem floatBits_not {op : BinOp} {k : FloatKind} {x y r : Nat} (h : floatBits op k x y = some r) : (k.decode r).isNaN = false := by
  unfold floatBits at h
  split at h
  · obtain ⟨d, hd, rfl⟩ := Option.map_eq_some_iff.1 h; exact write_not _ (sum_not hd)
  · obtain ⟨d, hd, rfl⟩ := Option.map_eq_some_iff.1 h; exact write_not _ (sum_not hd)
  · obtain ⟨d, hd, rfl⟩ := Option.map_eq_some_iff.1 h; exact write_not _ (product_not hd)
  · obtain ⟨d, hd, rfl⟩ := Option.map_eq_some_iff.1 h; exact write_not _ (quotient_not hd)
  · cases h

/-- The operation on words with one not-a-number. -/
def bin (op : BinOp) (k : FloatKind) (x y : Nat) : Nat := (floatBits op k x y).getD (nanw k)

theorem nan_single (s m : Nat) (h0 : 0 < m) (h1 : m < 8388608) : (Ieee.single.read (s % 2 * 2147483648 + (2139095040 + m))).isNaN = true := by
  have e1 : Ieee.single.signWeight = 2147483648 := by decide
  have e2 : Ieee.single.binade = 8388608 := by decide
  have e3 : Ieee.single.infRung = 2139095040 := by decide
  have hm : (s % 2 * 2147483648 + (2139095040 + m)) % 2147483648 = 2139095040 + m := by omega
  unfold Ieee.Format.read
  simp only [e1, e2, e3, hm]
  rw [if_neg (by omega), if_neg (by omega), if_neg (by omega)]
  rfl

theorem nan_double (s m : Nat) (h0 : 0 < m) (h1 : m < 4503599627370496) : (Ieee.double.read (s % 2 * 9223372036854775808 + (9218868437227405312 + m))).isNaN = true := by
  have e1 : Ieee.double.signWeight = 9223372036854775808 := by decide
  have e2 : Ieee.double.binade = 4503599627370496 := by decide
  have e3 : Ieee.double.infRung = 9218868437227405312 := by decide
  have hm : (s % 2 * 9223372036854775808 + (9218868437227405312 + m)) % 9223372036854775808 = 9218868437227405312 + m := by omega
  unfold Ieee.Format.read
  simp only [e1, e2, e3, hm]
  rw [if_neg (by omega), if_neg (by omega), if_neg (by omega)]
  rfl

/-- A drawn not-a-number is one. -/
theorem cut_nan (k : FloatKind) (x y t : Nat) : (k.decode (Question.cut (.nanBits k x y) t)).isNaN = true := by
  cases k
  · have h : t / 2 % 8388607 < 8388607 := Nat.mod_lt _ (by decide)
    have := nan_single t (1 + t / 2 % 8388607) (by omega) (by omega)
    have e : t % 2 * 2147483648 + (2139095040 + (1 + t / 2 % 8388607)) = Question.cut (.nanBits .f32 x y) t := by
      show _ = t % 2 * 2 ^ 31 + 0x7f800000 + 1 + t / 2 % (2 ^ 23 - 1)
      omega
    rw [e] at this; exact this
  · have h : t / 2 % 4503599627370495 < 4503599627370495 := Nat.mod_lt _ (by decide)
    have := nan_double t (1 + t / 2 % 4503599627370495) (by omega) (by omega)
    have e : t % 2 * 9223372036854775808 + (9218868437227405312 + (1 + t / 2 % 4503599627370495)) = Question.cut (.nanBits .f64 x y) t := by
      show _ = t % 2 * 2 ^ 63 + 0x7ff0000000000000 + 1 + t / 2 % (2 ^ 52 - 1)
      omega
    rw [e] at this; exact this

theorem cut_conv (k : FloatKind) (x t : Nat) : (k.decode (Question.cut (.nanConv k x) t)).isNaN = true := by
  cases k
  · exact cut_nan .f32 x x t
  · exact cut_nan .f64 x x t

def arith : BinOp → Bool
  | .add | .sub | .mul | .quo => true
  | _ => false

section
variable {P : Program}

/-- WHAT A FLOAT OPERATION COMES TO, ANY OPERANDS. -/
theorem run_bin (w : World) (op : BinOp) (t : TypeId) (k : FloatKind) (x y : Nat) (h : arith op = true) :
    ∃ r n, (binOp op t (.float k x) (.float k y)).run P w = .ok (.float k r) (w.drewN n) ∧ cn k r = bin op k (cn k x) (cn k y) := by
  cases hb : floatBits op k x y with
  | some r =>
    refine ⟨r, 0, by rw [run_float_arith w op t k x y r hb]; rfl, ?_⟩
    unfold bin
    rw [floatBits_cn, hb, cn_of_not (floatBits_not hb)]
    rfl
  | none =>
    refine ⟨Question.cut (.nanBits k x y) (w.tape w.drawn (.nanBits k x y)), 1, ?_, ?_⟩
    · unfold floatBits at hb
      cases op <;> first | (cases h; done) | skip
      all_goals simp only at hb; simp [binOp, Op.floatArith, hb, choose, Sem.run, Question.forced, World.drewN, World.ask]
    · unfold bin
      rw [floatBits_cn, hb, cn_of_nan (cut_nan k x y _)]
      rfl

/-- An operation as its run equation gives it: for the walk. -/
theorem wp_op {ops : Array Oper} {rest : List Oper} {o : Oper} {a : Act} {Q : Exit → Act → World → Prop} {w : World} (hgd : o.guard = none) (v : Value) (w' : World)
    (hr : (execOp a.eval o).run P w = .ok (.value v) w') (h : wpList P ops Q rest (a.put o.dst v) w') : wpList P ops Q (o :: rest) a w :=
  wpList_plain hgd fun K hK => by unfold Oper.wp; rw [hr]; exact hK _ _ h

theorem exec_bin (o : Oper) (a : Act) (op : BinOp) (t t2 : TypeId) (x y : Operand) (ho : o.op = .binOp op t x y t2) (hop : arith op = true) (w : World) (v : Value) (w' : World)
    (hr : (binOp op t (a.eval x) (a.eval y)).run P w = .ok v w') : (execOp a.eval o).run P w = .ok (.value v) w' := by
  cases op <;> first | (cases hop; done) | skip
  all_goals simp [execOp, ho, eqGuard, hr]

theorem exec_convert (o : Oper) (a : Act) (s d : TypeId) (x : Operand) (ho : o.op = .convert s d x) (w : World) (v : Value) (w' : World)
    (hr : (convert s d (a.eval x)).run P w = .ok v w') : (execOp a.eval o).run P w = .ok (.value v) w' := by
  simp [execOp, ho, hr]

/-- + - * / on floats. -/
theorem wp_bin {ops : Array Oper} {rest : List Oper} {o : Oper} {a : Act} {Q : Exit → Act → World → Prop} {w : World} (hgd : o.guard = none) (op : BinOp) (t t2 : TypeId) (x y : Operand)
    (ho : o.op = .binOp op t x y t2) (k : FloatKind) (u v : Nat) (hx : a.eval x = .float k u) (hy : a.eval y = .float k v) (hop : arith op = true)
    (h : ∀ r n, cn k r = bin op k (cn k u) (cn k v) → wpList P ops Q rest (a.put o.dst (.float k r)) (w.drewN n)) : wpList P ops Q (o :: rest) a w := by
  obtain ⟨r, n, hr, hc⟩ := run_bin (P := P) w op t k u v hop
  exact wp_op hgd _ _ (exec_bin o a op t t2 x y ho hop w _ _ (by rw [hx, hy]; exact hr)) (h r n hc)

/-- float64(x) of a float32, on words with one not-a-number. -/
def wid (x : Nat) : Nat := if (FloatKind.f32.decode x).isNaN then nanw .f64 else FloatKind.f64.encode (FloatKind.f32.decode x)
/-- float32(x) of a float64. -/
def nar (x : Nat) : Nat := if (FloatKind.f64.decode x).isNaN then nanw .f32 else FloatKind.f32.encode (FloatKind.f64.decode x)
/-- .. is given by the language: no finite number becomes an infinity. -/
def fits (x : Nat) : Prop := ∀ s m e, FloatKind.f64.decode x = .number s m e → (FloatKind.f32.decode (FloatKind.f32.encode (.number s m e))).isInfinity = false
/-- .. likewise, of the other way: always so, but to be shown. -/
def fitsW (x : Nat) : Prop := ∀ s m e, FloatKind.f32.decode x = .number s m e → (FloatKind.f64.decode (FloatKind.f64.encode (.number s m e))).isInfinity = false

theorem run_conv (w : World) (s d : TypeId) (ks kd : FloatKind) (hne : ks ≠ kd) (hs : (P.underlying s).isSome = true) (hd : P.underlying d = some (.float kd)) (x : Nat)
    (hf : ∀ s m e, ks.decode x = .number s m e → (kd.decode (kd.encode (.number s m e))).isInfinity = false) :
    ∃ r n, (convert s d (.float ks x)).run P w = .ok (.float kd r) (w.drewN n) ∧ cn kd r = if (ks.decode x).isNaN then nanw kd else kd.encode (ks.decode x) := by
  obtain ⟨u, hs'⟩ := Option.isSome_iff_exists.1 hs
  cases hx : ks.decode x with
  | nan sg t =>
    refine ⟨Question.cut (.nanConv kd x) (w.tape w.drawn (.nanConv kd x)), 1, ?_, by rw [cn_of_nan (cut_conv kd x _)]; rfl⟩
    cases u <;> simp [convert, run_underlying hs', run_underlying hd, Conv.floatToFloat, hx, hne, choose, Sem.run, Question.forced, World.drewN, World.ask]
  | infinity sg =>
    refine ⟨kd.encode (.infinity sg), 0, ?_, by rw [cn_of_not (show (kd.decode (kd.encode _)).isNaN = false from write_not kd.format rfl)]; rfl⟩
    rw [run_convert_float_float w s d ks kd x _ hs hd (by unfold floatToFloatBits; rw [if_neg hne, hx])]
    rfl
  | number sg m e =>
    refine ⟨kd.encode (.number sg m e), 0, ?_, by rw [cn_of_not (show (kd.decode (kd.encode _)).isNaN = false from write_not kd.format rfl)]; rfl⟩
    rw [run_convert_float_float w s d ks kd x _ hs hd (by unfold floatToFloatBits; rw [if_neg hne, hx]; simp only [hf _ _ _ hx]; rfl)]
    rfl

theorem decode_cn_not {k : FloatKind} {x : Nat} (h : (k.decode x).isNaN = false) : k.decode (cn k x) = k.decode x := by rw [cn_of_not h]

theorem cn_pick (ks kd : FloatKind) (x : Nat) : (if (ks.decode (cn ks x)).isNaN then nanw kd else kd.encode (ks.decode (cn ks x))) = if (ks.decode x).isNaN then nanw kd else kd.encode (ks.decode x) := by
  rw [isNaN_cn]
  cases h : (ks.decode x).isNaN
  · rw [decode_cn_not h]
  · rfl

theorem wp_wid {ops : Array Oper} {rest : List Oper} {o : Oper} {a : Act} {Q : Exit → Act → World → Prop} {w : World} (hgd : o.guard = none) (s d : TypeId) (x : Operand)
    (ho : o.op = .convert s d x) (u : Nat) (hx : a.eval x = .float .f32 u) (hs : (P.underlying s).isSome = true) (hd : P.underlying d = some (.float .f64)) (hf : ∀ x, fitsW x)
    (h : ∀ r n, cn .f64 r = wid (cn .f32 u) → wpList P ops Q rest (a.put o.dst (.float .f64 r)) (w.drewN n)) : wpList P ops Q (o :: rest) a w := by
  obtain ⟨r, n, hr, hc⟩ := run_conv (P := P) w s d .f32 .f64 (by decide) hs hd u (hf u)
  refine wp_op hgd _ _ (exec_convert o a s d x ho w _ _ (by rw [hx]; exact hr)) (h r n ?_)
  rw [hc]; exact (cn_pick .f32 .f64 u).symm

theorem fits_cn {x : Nat} (h : fits (cn .f64 x)) : fits x := by
  intro s m e hx
  refine h s m e ?_
  rw [decode_cn_not (by rw [hx]; rfl)]; exact hx

theorem wp_nar {ops : Array Oper} {rest : List Oper} {o : Oper} {a : Act} {Q : Exit → Act → World → Prop} {w : World} (hgd : o.guard = none) (s d : TypeId) (x : Operand)
    (ho : o.op = .convert s d x) (u : Nat) (hx : a.eval x = .float .f64 u) (hs : (P.underlying s).isSome = true) (hd : P.underlying d = some (.float .f32)) (hf : fits (cn .f64 u))
    (h : ∀ r n, cn .f32 r = nar (cn .f64 u) → wpList P ops Q rest (a.put o.dst (.float .f32 r)) (w.drewN n)) : wpList P ops Q (o :: rest) a w := by
  obtain ⟨r, n, hr, hc⟩ := run_conv (P := P) w s d .f64 .f32 (by decide) hs hd u (fits_cn hf)
  refine wp_op hgd _ _ (exec_convert o a s d x ho w _ _ (by rw [hx]; exact hr)) (h r n ?_)
  rw [hc]; exact (cn_pick .f64 .f32 u).symm

/-- A call of a function of one argument that the model has as an entry. -/
theorem exec_entry (o : Oper) (a : Act) (f : FuncId) (x : Operand) (ats : Array TypeId) (ho : o.op = .call { callee := .value (.func f), args := #[x], argTypes := ats }) (hf : a.eval (.func f) = .func (.func f) #[] #[])
    (e : Array Value → Sem Value) (hcf : ∀ args w, (callFunc f args).run P w = ((e args).run P w).andThen fun v w' => .ok (.value v) w') (w : World) (v : Value) (w' : World)
    (hr : (e #[a.eval x]).run P w = .ok v w') : (execOp a.eval o).run P w = .ok (.value v) w' := by
  simp only [execOp, ho, resolve, invoke, Deferred.ofValue, hf, Sem.run_bind, Sem.run_pure, Result.andThen_ok]
  simp only [List.map_toArray, List.map_cons, List.map_nil, Array.empty_append, Array.append_empty, hcf, hr]
  rfl

theorem wp_entry {ops : Array Oper} {rest : List Oper} {o : Oper} {a : Act} {Q : Exit → Act → World → Prop} {w : World} (hgd : o.guard = none) (f : FuncId) (x : Operand) (ats : Array TypeId)
    (ho : o.op = .call { callee := .value (.func f), args := #[x], argTypes := ats }) (hf : a.eval (.func f) = .func (.func f) #[] #[])
    (e : Array Value → Sem Value) (hcf : ∀ args w, (callFunc f args).run P w = ((e args).run P w).andThen fun v w' => .ok (.value v) w') (R : Value → Prop)
    (hr : ∃ v n, (e #[a.eval x]).run P w = .ok v (w.drewN n) ∧ R v) (h : ∀ v n, R v → wpList P ops Q rest (a.put o.dst v) (w.drewN n)) : wpList P ops Q (o :: rest) a w := by
  obtain ⟨v, n, h1, h2⟩ := hr
  exact wp_op hgd _ _ (exec_entry o a f x ats ho hf e hcf w _ _ h1) (h v n h2)

/-- The square root, on words with one not-a-number. -/
def sqr (x : Nat) : Nat := (FloatKind.f64.format.sqrt x).getD (nanw .f64)
theorem sqrt_cn (x : Nat) : FloatKind.f64.format.sqrt (cn .f64 x) = FloatKind.f64.format.sqrt x := by
  cases h : (FloatKind.f64.decode x).isNaN
  · rw [cn_of_not h]
  · have h2 : (FloatKind.f64.decode (cn .f64 x)).isNaN = true := by rw [isNaN_cn]; exact h
    show ((FloatKind.f64.decode (cn .f64 x)).root _).map _ = ((FloatKind.f64.decode x).root _).map _
    rw [root_nan h, root_nan h2]
theorem sqrt_not {x r : Nat} (h : FloatKind.f64.format.sqrt x = some r) : (FloatKind.f64.decode r).isNaN = false := by
  obtain ⟨d, hd, rfl⟩ := Option.map_eq_some_iff.1 h
  exact write_not _ (root_not hd)
theorem run_sqrt (w : World) (x : Nat) : ∃ v n, (Extern.MathSqrt.sqrt #[.float .f64 x]).run P w = .ok v (w.drewN n) ∧ ∃ r, v = .float .f64 r ∧ cn .f64 r = sqr (cn .f64 x) := by
  cases hb : FloatKind.f64.format.sqrt x with
  | some r =>
    refine ⟨.float .f64 r, 0, ?_, r, rfl, by unfold sqr; rw [sqrt_cn, hb, cn_of_not (sqrt_not hb)]; rfl⟩
    show Sem.run P (match FloatKind.f64.format.sqrt x with | some r => pure (Value.float .f64 r) | none => do pure (.float .f64 (← choose (.nanBits .f64 x x)))) w = _
    rw [hb]; rfl
  | none =>
    refine ⟨.float .f64 (Question.cut (.nanBits .f64 x x) (w.tape w.drawn (.nanBits .f64 x x))), 1, ?_, _, rfl, by unfold sqr; rw [sqrt_cn, hb, cn_of_nan (cut_nan .f64 x x _)]; rfl⟩
    show Sem.run P (match FloatKind.f64.format.sqrt x with | some r => pure (Value.float .f64 r) | none => do pure (.float .f64 (← choose (.nanBits .f64 x x)))) w = _
    rw [hb]
    simp [choose, Sem.run, Question.forced, World.drewN, World.ask]

/-- A float64 made whole. -/
def whole (way : Ieee.Toward) (x : Nat) : Nat := if (FloatKind.f64.decode x).isNaN then nanw .f64 else FloatKind.f64.encode ((FloatKind.f64.decode x).integral way)
theorem integral_not (way : Ieee.Toward) {d : Ieee.Datum} (h : d.isNaN = false) : (d.integral way).isNaN = false := by cases d <;> first | rfl | cases h
theorem whole_cn (way : Ieee.Toward) (x : Nat) : whole way (cn .f64 x) = whole way x := by
  unfold whole
  rw [isNaN_cn]
  cases h : (FloatKind.f64.decode x).isNaN
  · rw [decode_cn_not h]
  · rfl

theorem quiet_lt (t : Nat) (h : t < 4503599627370496) : Ieee.double.quiet t < 4503599627370496 := by
  have : t ||| 2 ^ 51 < 2 ^ 52 := Nat.or_lt_two_pow h (by decide)
  exact this
theorem quiet_pos (t : Nat) : 0 < Ieee.double.quiet t := by
  have : 2 ^ 51 ≤ t ||| 2 ^ 51 := Nat.right_le_or
  exact Nat.lt_of_lt_of_le (by decide) this

theorem read_nan_lt {x : Nat} {s : Bool} {t : Nat} (h : FloatKind.f64.decode x = .nan s t) : t < 4503599627370496 := by
  have e1 : Ieee.double.signWeight = 9223372036854775808 := by decide
  have e2 : Ieee.double.binade = 4503599627370496 := by decide
  have e3 : Ieee.double.infRung = 9218868437227405312 := by decide
  change Ieee.double.read x = _ at h
  unfold Ieee.Format.read at h
  simp only [e1, e2, e3] at h
  split at h
  · cases h
  · split at h
    · cases h
    · split at h
      · cases h
      · injection h with h1 h2
        omega

theorem write_nan (s : Bool) (t : Nat) (h : t < 4503599627370496) : Ieee.double.write (.nan s t) = (if s then 1 else 0) % 2 * 9223372036854775808 + (9218868437227405312 + t) := by
  have e1 : Ieee.double.signWeight = 9223372036854775808 := by decide
  have e2 : Ieee.double.binade = 4503599627370496 := by decide
  have e3 : Ieee.double.infRung = 9218868437227405312 := by decide
  have hm : t % 4503599627370496 = t := Nat.mod_eq_of_lt h
  simp only [Ieee.Format.write, Ieee.Format.word, e1, e2, e3, hm]
  cases s
  · simp only [Bool.false_eq_true, if_false]; omega
  · simp only [if_true]; try omega

theorem cn_enc {k : FloatKind} {d : Ieee.Datum} (h : d.isNaN = false) : cn k (k.encode d) = k.encode d := cn_of_not (write_not k.format h)

theorem run_whole (w : World) (name : String) (way : Ieee.Toward) (x : Nat) : ∃ v n, (Extern.MathFloor.toIntegral name way #[.float .f64 x]).run P w = .ok v (w.drewN n) ∧ ∃ r, v = .float .f64 r ∧ cn .f64 r = whole way (cn .f64 x) := by
  have hd : (Extern.MathFloor.toIntegral name way #[.float .f64 x]).run P w = Sem.run P (match FloatKind.f64.decode x with
    | .nan s t => if FloatKind.f64.format.quiet t = t then pure (Value.float .f64 x) else do
        let kept ← choose (.extern "math.Floor,Ceil,Trunc,RoundToEven.signallingNaN kept" 2)
        pure (.float .f64 (if kept == 1 then x else FloatKind.f64.encode (.nan s (FloatKind.f64.format.quiet t))))
    | d => pure (.float .f64 (FloatKind.f64.encode (d.integral way)))) w := rfl
  rw [hd, whole_cn]
  cases hx : FloatKind.f64.decode x with
  | nan s t =>
    have hn : (FloatKind.f64.decode x).isNaN = true := by rw [hx]; rfl
    have hw : whole way x = nanw .f64 := by unfold whole; rw [hn]; rfl
    by_cases hq : FloatKind.f64.format.quiet t = t
    · exact ⟨.float .f64 x, 0, by simp only [hq, if_true]; rfl, x, rfl, by rw [hw, cn_of_nan hn]⟩
    · refine ⟨_, 1, by simp only [hq, if_false]; simp only [choose, Sem.run, Sem.run_bind, Question.forced]; try rfl, _, rfl, ?_⟩
      rw [hw]
      split
      · exact cn_of_nan hn
      · refine cn_of_nan ?_
        have hl := read_nan_lt hx
        have h2 := nan_double (if s then 1 else 0) (Ieee.double.quiet t) (quiet_pos t) (quiet_lt t hl)
        have e : FloatKind.f64.encode (.nan s (FloatKind.f64.format.quiet t)) = (if s then 1 else 0) % 2 * 9223372036854775808 + (9218868437227405312 + Ieee.double.quiet t) := by
          exact write_nan s _ (quiet_lt t hl)
        rw [e]; exact h2
  | infinity s => exact ⟨.float .f64 (FloatKind.f64.encode ((Ieee.Datum.infinity s).integral way)), 0, rfl, _, rfl, (cn_enc (d := (Ieee.Datum.infinity s).integral way) rfl).trans (by unfold whole; rw [hx, if_neg (by intro h; cases h)])⟩
  | number s m e => exact ⟨.float .f64 (FloatKind.f64.encode ((Ieee.Datum.number s m e).integral way)), 0, rfl, _, rfl, (cn_enc (d := (Ieee.Datum.number s m e).integral way) rfl).trans (by unfold whole; rw [hx, if_neg (by intro h; cases h)])⟩
end

@[go_sem] theorem run_store_float (P : Program) (w : World) (a : Addr) (m : Mode) (k : FloatKind) (b : Nat) : (store a (.float k b) m).run P w = stored P w a (.float k b) m := run_store P w a _ m rfl
@[go_sem] theorem run_neg_float (P : Program) (w : World) (k : FloatKind) (b : Nat) : (Op.unary .neg (.float k b)).run P w = .ok (.float k (Op.negFloat k b)) w := rfl

/-- What is said of a float result: up to the bits of a not-a-number, and nothing of what was there has turned. -/
def Ret (k : FloatKind) (v : Nat) (w : World) (e : Ending) (w' : World) : Prop := ∃ r, e = .returned (.float k r) ∧ cn k r = v ∧ Below w.heap.size w w'

theorem bcell {W w1 : World} (hb : Below W.heap.size W w1) : (∀ b o, b < W.heap.size → w1.cell? ⟨b, o, none⟩ = W.cell? ⟨b, o, none⟩) ∧ (∀ b o, b < W.heap.size → w1.frozen? ⟨b, o, none⟩ = W.frozen? ⟨b, o, none⟩) :=
  ⟨fun b o h => hb.cell (p := ⟨b, o, none⟩) h, fun b o h => hb.frozen (p := ⟨b, o, none⟩) h⟩

theorem below_step {A B C : World} (h1 : Below A.heap.size A B) (h2 : Below B.heap.size B C) : Below A.heap.size A C := h1.trans (h2.mono h1.size)

theorem some_lt {w : World} {a : Addr} (h : (w.cell? a).isSome = true) : a.block < w.heap.size := by
  rcases Nat.lt_or_ge a.block w.heap.size with h' | h'
  · exact h'
  · exfalso
    unfold World.cell? at h
    have e : w.heap[a.block]? = none := Array.getElem?_eq_none h'
    rw [e] at h
    cases h

/-- What was there reads as it did. -/
theorem lift {W w' : World} (h : Below W.heap.size W w') : ∀ a : Addr, (W.cell? a).isSome = true → w'.cell? a = W.cell? a := fun _ ha => h.cell (some_lt ha)
theorem liftF {W w' : World} (h : Below W.heap.size W w') : ∀ a : Addr, (W.cell? a).isSome = true → w'.frozen? a = W.frozen? a := fun _ ha => h.frozen (some_lt ha)

/-- What is known of some cells: what they hold; and that they can be written. -/
def Kept (cs : List (Addr × Value)) (fs : List Addr) (w : World) : Prop := (∀ p ∈ cs, w.cell? p.1 = some p.2) ∧ ∀ a ∈ fs, (w.cell? a).isSome = true ∧ w.frozen? a = false

theorem keep {cs : List (Addr × Value)} {fs : List Addr} {W w : World} (h : Kept cs fs W) (hb : Below W.heap.size W w) : Kept cs fs w := by
  refine ⟨fun p hp => ?_, fun a ha => ?_⟩
  · have := h.1 p hp
    rw [lift hb _ (by rw [this]; rfl)]; exact this
  · have := h.2 a ha
    exact ⟨by rw [lift hb _ this.1]; exact this.1, by rw [liftF hb _ this.1]; exact this.2⟩

theorem kept_app {cs cs' : List (Addr × Value)} {fs fs' : List Addr} {w : World} (h : Kept cs fs w) (h' : Kept cs' fs' w) : Kept (cs ++ cs') (fs ++ fs') w :=
  ⟨fun p hp => (List.mem_append.1 hp).elim (h.1 p) (h'.1 p), fun a ha => (List.mem_append.1 ha).elim (h.2 a) (h'.2 a)⟩

theorem kept_set {cs : List (Addr × Value)} {fs : List Addr} {w : World} (h : Kept cs fs w) {a : Addr} (hc : ∀ p ∈ cs, a.block ≠ p.1.block) (hf : ∀ x ∈ fs, a.block ≠ x.block) (v : Value) : Kept cs fs (w.setCell a v) := by
  have hh : ∀ k, k ≠ a.block → (w.setCell a v).heap[k]? = w.heap[k]? := fun k hk => Below.heap_setCell w a v k hk
  refine ⟨fun p hp => ?_, fun x hx => ?_⟩
  · rw [World.cell?_of_block (w := w) (hh p.1.block (Ne.symm (hc p hp)))]; exact h.1 p hp
  · rw [World.cell?_of_block (w := w) (hh x.block (Ne.symm (hf x hx))), World.frozen?_of_block (w := w) (hh x.block (Ne.symm (hf x hx)))]; exact h.2 x hx

theorem kept_drewN {cs : List (Addr × Value)} {fs : List Addr} {W : World} (h : Kept cs fs W) (n : Nat) : Kept cs fs (W.drewN n) := h

/-- A float operation in a region that draws its order. -/
theorem one_bin {P : Program} {W : World} {Phi : FuncId → Array Value → Value → Prop} {o : Oper} {a : Act} {K : Act → Prop} (op : BinOp) (t t2 : TypeId) (x y : Operand)
    (ho : o.op = .binOp op t x y t2) (k : FloatKind) (u v : Nat) (hx : a.eval x = .float k u) (hy : a.eval y = .float k v) (hop : arith op = true)
    (h : ∀ r, cn k r = bin op k (cn k u) (cn k v) → K (a.put o.dst (.float k r))) : Qr.one P (fun w' => Below W.heap.size W w') Phi o a K := by
  refine Qr.one_rel (fun x => ∃ r, x = .float k r ∧ cn k r = bin op k (cn k u) (cn k v)) (fun w' hw' => ?_) ?_
  · obtain ⟨r, n, hr, hc⟩ := run_bin (P := P) w' op t k u v hop
    exact ⟨_, w'.drewN n, exec_bin o a op t t2 x y ho hop w' _ _ (by rw [hx, hy]; exact hr), ⟨r, rfl, hc⟩, ⟨hw'.os, hw'.tape, hw'.output, hw'.size, hw'.block⟩, rfl, rfl, rfl, Nat.le_refl _, fun _ _ => rfl⟩
  · rintro _ ⟨r, rfl, hr⟩
    exact h r hr

theorem below_drewN {B : Nat} {a w : World} (h : Below B a w) (n : Nat) : Below B a (w.drewN n) := ⟨h.os, h.tape, h.output, h.size, h.block⟩
end Go.Fl

namespace Go.Proofs.YtdbpgblhnhdhoaaGreat
open Go.RowKit

theorem ext_sqrt (args : Array Value) (w : World) : (callFunc 210 args).run Tryz.prog w = ((Extern.MathSqrt.sqrt args).run Tryz.prog w).andThen fun v w' => .ok (.value v) w' :=
  run_callFunc_extern Tryz.func210 (by kernel_rfl) (by kernel_rfl) (by kernel_rfl) (by kernel_rfl) args w
theorem ext_rte (args : Array Value) (w : World) : (callFunc 217 args).run Tryz.prog w = ((Extern.MathFloor.toIntegral "math.RoundToEven" .even args).run Tryz.prog w).andThen fun v w' => .ok (.value v) w' :=
  run_callFunc_extern Tryz.func217 (by kernel_rfl) (by kernel_rfl) (by kernel_rfl) (by kernel_rfl) args w
theorem ext_trunc (args : Array Value) (w : World) : (callFunc 221 args).run Tryz.prog w = ((Extern.MathFloor.toIntegral "math.archTrunc" .zero args).run Tryz.prog w).andThen fun v w' => .ok (.value v) w' :=
  run_callFunc_extern Tryz.func221 (by kernel_rfl) (by kernel_rfl) (by kernel_rfl) (by kernel_rfl) args w
theorem ext_bits (args : Array Value) (w : World) : (callFunc 220 args).run Tryz.prog w = ((Extern.MathFloatBits.float64bits args).run Tryz.prog w).andThen fun v w' => .ok (.value v) w' :=
  run_callFunc_extern Tryz.func220 (by kernel_rfl) (by kernel_rfl) (by kernel_rfl) (by kernel_rfl) args w
theorem ext_frombits (args : Array Value) (w : World) : (callFunc 202 args).run Tryz.prog w = ((Extern.MathFloatBits.float64frombits args).run Tryz.prog w).andThen fun v w' => .ok (.value v) w' :=
  run_callFunc_extern Tryz.func202 (by kernel_rfl) (by kernel_rfl) (by kernel_rfl) (by kernel_rfl) args w
theorem some_f32 : (Tryz.prog.underlying 25).isSome = true := by rw [Tryz.underlying25, Option.isSome_some]
theorem some_f64 : (Tryz.prog.underlying 38).isSome = true := by rw [Tryz.underlying38, Option.isSome_some]
end Go.Proofs.YtdbpgblhnhdhoaaGreat

namespace Go.Fl
open Go Go.RowKit

/-- x < y, at words. -/
def ltk (k : FloatKind) (x y : Nat) : Bool := k.format.order x y == some .lt
def gtk (k : FloatKind) (x y : Nat) : Bool := k.format.order x y == some .gt
def eqk (k : FloatKind) (x y : Nat) : Bool := k.format.order x y == some .eq
def lek (k : FloatKind) (x y : Nat) : Bool := k.format.order x y == some .lt || k.format.order x y == some .eq
theorem ltk_cn (k : FloatKind) (x y : Nat) : ltk k (cn k x) (cn k y) = ltk k x y := by unfold ltk; rw [order_cn]
theorem gtk_cn (k : FloatKind) (x y : Nat) : gtk k (cn k x) (cn k y) = gtk k x y := by unfold gtk; rw [order_cn]
theorem eqk_cn (k : FloatKind) (x y : Nat) : eqk k (cn k x) (cn k y) = eqk k x y := by unfold eqk; rw [order_cn]

theorem xor_mod (x n : Nat) : (x ^^^ 2 ^ n) % 2 ^ n = x % 2 ^ n := by rw [Nat.xor_mod_two_pow]; simp
theorem xor_div (x n : Nat) : (x ^^^ 2 ^ n) / 2 ^ n % 2 = (x / 2 ^ n + 1) % 2 := by
  have h : (x ^^^ 2 ^ n).testBit n = !x.testBit n := by simp [Nat.testBit_xor]
  rw [Nat.testBit_eq_decide_div_mod_eq, Nat.testBit_eq_decide_div_mod_eq] at h
  have h1 : (x ^^^ 2 ^ n) / 2 ^ n % 2 < 2 := Nat.mod_lt _ (by decide)
  have h2 : x / 2 ^ n % 2 < 2 := Nat.mod_lt _ (by decide)
  by_cases e : x / 2 ^ n % 2 = 1
  · have : ¬ (x ^^^ 2 ^ n) / 2 ^ n % 2 = 1 := by simpa [e] using h
    omega
  · have : (x ^^^ 2 ^ n) / 2 ^ n % 2 = 1 := by simpa [e] using h
    omega

theorem decode_neg (k : FloatKind) (x : Nat) : k.decode (Op.negFloat k x) = (k.decode x).opposite := by
  have hs : k.format.signWeight = 2 ^ (k.format.exponentBits + k.format.fractionBits) := rfl
  show k.format.read (x ^^^ 2 ^ (k.format.exponentBits + k.format.fractionBits)) = _
  show _ = (k.format.read x).opposite
  unfold Ieee.Format.read
  rw [hs]
  simp only [xor_mod, xor_div]
  have hb : ((x / 2 ^ (k.format.exponentBits + k.format.fractionBits) + 1) % 2 == 1) = !(x / 2 ^ (k.format.exponentBits + k.format.fractionBits) % 2 == 1) := by
    rw [Bool.eq_iff_iff]; simp; omega
  rw [hb]
  split
  · rfl
  · split
    · rfl
    · split <;> rfl

/-- -x. -/
def negc (k : FloatKind) (x : Nat) : Nat := cn k (Op.negFloat k x)
theorem negc_cn (k : FloatKind) (x : Nat) : negc k (cn k x) = cn k (Op.negFloat k x) := by
  unfold negc
  cases h : (k.decode x).isNaN
  · rw [cn_of_not h]
  · rw [cn_of_nan (by rw [decode_neg, opp_nan, isNaN_cn]; exact h), cn_of_nan (by rw [decode_neg, opp_nan]; exact h)]

theorem cn_zero (k : FloatKind) : cn k 0 = 0 := by cases k <;> decide +kernel
theorem ord_r0 (k : FloatKind) (x : Nat) : k.format.order (cn k x) 0 = k.format.order x 0 := by have := order_cn k x 0; rwa [cn_zero] at this
theorem ord_l0 (k : FloatKind) (x : Nat) : k.format.order 0 (cn k x) = k.format.order 0 x := by have := order_cn k 0 x; rwa [cn_zero] at this

theorem gtk_of {x : Nat} {b : Bool} (h : (FloatKind.f32.format.order x 0 == some .gt) = b) : gtk .f32 (cn .f32 x) 0 = b := by unfold gtk; rw [ord_r0]; exact h
theorem ltk_of {x : Nat} {b : Bool} (h : (FloatKind.f32.format.order x 0 == some .lt) = b) : ltk .f32 (cn .f32 x) 0 = b := by unfold ltk; rw [ord_r0]; exact h

abbrev B (op : BinOp) (x y : Nat) : Nat := bin op .f32 x y

/-- impl -/
def sizeF (x : Nat) : Nat := if ltk .f32 x 0 then negc .f32 x else x
def lesserF (a b : Nat) : Nat := if ltk .f32 b a then b else a
def greaterF (a b : Nat) : Nat := if gtk .f32 b a then b else a
def shortF (y h : Nat) : Nat := B .sub y (lesserF (greaterF 0 y) h)
def innerF (a b c d e f : Nat) : Nat := B .add (B .add (B .mul a d) (B .mul b e)) (B .mul c f)
def rootF (x : Nat) : Nat := nar (sqr (wid x))
def longF (a b c : Nat) : Nat := rootF (innerF a b c a b c)
def bulgeF (h k : Nat) : Nat := if gtk .f32 h 0 then B .quo (B .mul h h) (B .mul 1082130432 k) else 0
def nearF (x : Nat) : Nat := nar (whole .even (wid x))
def foldF (c s : Nat) : Nat := B .mul (B .mul 1073741824 s) (nearF (B .quo c (B .mul 1073741824 s)))

/-- impl: leaves, mixes. -/
def ballF (x y z r : Nat) : Nat := B .sub (longF x y z) r
def boxF (x y z u v t : Nat) : Nat :=
  B .add (longF (greaterF 0 (B .sub (sizeF x) u)) (greaterF 0 (B .sub (sizeF y) v)) (greaterF 0 (B .sub (sizeF z) t)))
    (lesserF 0 (greaterF (greaterF (B .sub (sizeF x) u) (B .sub (sizeF y) v)) (B .sub (sizeF z) t)))
def tubeF (x y z h r : Nat) : Nat := B .sub (longF x (shortF y h) z) r
def ringF (x y z u r : Nat) : Nat := B .sub (longF (B .sub (longF x 0 z) u) y 0) r
def planeF (x y z a b c d : Nat) : Nat := B .sub (innerF x y z a b c) d
def smoothF (a b k : Nat) : Nat := if gtk .f32 (B .sub k (sizeF (B .sub a b))) 0 then B .sub (lesserF a b) (bulgeF (B .sub k (sizeF (B .sub a b))) k) else lesserF a b

abbrev D (op : BinOp) (x y : Nat) : Nat := bin op .f64 x y
def gek (k : FloatKind) (x y : Nat) : Bool := k.format.order x y == some .gt || k.format.order x y == some .eq
/-- |x|, as math.Abs has it. -/
def absW (x : Nat) : Nat := (Go.bits .andNot .u64 (x : Int) 9223372036854775808).toNat
/-- 2 k (2 k + 1), with k = 8 - n. -/
def facN (n : Nat) : Int := 2 * (8 - (n : Int)) * (2 * (8 - (n : Int)) + 1)
def polyF (u : Nat) : Nat → Nat
  | 0 => 4607182418800017408
  | n + 1 => D .sub 4607182418800017408 (D .quo (D .mul u (polyF u n)) (floatOfInt .f64 (facN n)))
def sin1 (f : Nat) : Nat := if eqk .f64 (whole .zero f) 0 then f else D .sub f (whole .zero f)
def sin2 (f : Nat) : Nat := if ltk .f64 (sin1 f) 0 then D .add (sin1 f) 4607182418800017408 else sin1 f
def sinT (f : Nat) : Bool := gek .f64 (sin2 f) 4602678819172646912
def sin3 (f : Nat) : Nat := if sinT f then D .sub (sin2 f) 4602678819172646912 else sin2 f
def sin4 (f : Nat) : Nat := if gtk .f64 (sin3 f) 4598175219545276416 then D .sub 4602678819172646912 (sin3 f) else sin3 f
def sinZ (f : Nat) : Nat := D .mul (sin4 f) 4618760256179416344
def sinO (f : Nat) : Nat := D .mul (sinZ f) (polyF (D .mul (sinZ f) (sinZ f)) 8)
def sinW (f : Nat) : Nat := if sinT f then negc .f64 (sinO f) else sinO f
def sineF (x : Nat) : Nat := if eqk .f32 (B .sub x x) 0 then (if gek .f64 (absW (wid x)) 4841369599423283200 then 0 else nar (sinW (wid x))) else nanw .f32

theorem fits_nan : fits (nanw .f64) := by
  intro s m e h
  have := nan_nanw .f64
  rw [h] at this
  cases this
theorem nar_nan : nar (nanw .f64) = nanw .f32 := by unfold nar; rw [nan_nanw]; rfl
theorem cn_ofInt (k : FloatKind) (n : Int) : cn k (floatOfInt k n) = floatOfInt k n := cn_enc (d := .number (n < 0) n.natAbs 0) rfl
theorem cn_c1 : cn .f64 4607182418800017408 = 4607182418800017408 := by decide +kernel
theorem cn_c2 : cn .f64 4602678819172646912 = 4602678819172646912 := by decide +kernel
theorem cn_c3 : cn .f64 4598175219545276416 = 4598175219545276416 := by decide +kernel
theorem cn_c4 : cn .f64 4618760256179416344 = 4618760256179416344 := by decide +kernel
theorem cn_c5 : cn .f64 4841369599423283200 = 4841369599423283200 := by decide +kernel
theorem cn_c6 : cn .f32 1048576000 = 1048576000 := by decide +kernel
theorem cn_c7 : cn .f32 1073741824 = 1073741824 := by decide +kernel
theorem cn_c8 : cn .f32 1082130432 = 1082130432 := by decide +kernel
theorem ord_c (k : FloatKind) (x : Nat) {c : Nat} (h : cn k c = c) : k.format.order (cn k x) c = k.format.order x c := by have := order_cn k x c; rwa [h] at this
theorem eqk_ne {k : FloatKind} {x : Nat} {b : Bool} (h : (k.format.order x 0 != some .eq) = b) : eqk k (cn k x) 0 = !b := by unfold eqk; rw [ord_r0, ← h, bne, Bool.not_not]
theorem ltk_of' {k : FloatKind} {x : Nat} {b : Bool} (h : (k.format.order x 0 == some .lt) = b) : ltk k (cn k x) 0 = b := by unfold ltk; rw [ord_r0]; exact h
theorem gtk_c {k : FloatKind} {x c : Nat} {b : Bool} (hc : cn k c = c) (h : (k.format.order x c == some .gt) = b) : gtk k (cn k x) c = b := by unfold gtk; rw [ord_c k x hc]; exact h
theorem gek_c {k : FloatKind} {x c : Nat} (hc : cn k c = c) : gek k (cn k x) c = (k.format.order x c == some .gt || k.format.order x c == some .eq) := by unfold gek; rw [ord_c k x hc]

def turn1 (t i j : Nat) : Nat := B .add (B .mul (sineF (B .sub 1048576000 t)) i) (B .mul (sineF t) j)
def turn2 (t i j : Nat) : Nat := B .sub (B .mul (sineF (B .sub 1048576000 t)) j) (B .mul (sineF t) i)
def foldedF (c s : Nat) : Nat := sizeF (B .sub c (foldF c s))

/-- A vector's result. -/
def RetV (x y z : Nat) (w : World) (e : Ending) (w' : World) : Prop :=
  ∃ a b c, e = .returned (.agg #[.float .f32 a, .float .f32 b, .float .f32 c]) ∧ cn .f32 a = x ∧ cn .f32 b = y ∧ cn .f32 c = z ∧ Below w.heap.size w w'
end Go.Fl
