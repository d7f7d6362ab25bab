/-
  A region that draws its order, in which a new one-element slice is made of what a call yields: what it holds is known. Conditions: the tail is one chain behind the head; no operation of the head has a guard.
-/
import Derived.Test.YtdbpgblhnhdhoaaQr
set_option linter.unusedVariables false
set_option linter.unusedSimpArgs false
namespace Go.Qr
open Go

section
variable {P : Program} {ops : Array Oper} {md : Region.Mode} {C : World → Prop} {Phi : FuncId → Array Value → Value → Prop}

/-- What an operation has come to; of a call, its word. -/
def came2 (P : Program) (Phi : FuncId → Array Value → Value → Prop) (o : Oper) (a : Act) (w : World) (v : Value) (w' : World) : Prop :=
  Go.RowKit.Below w.heap.size w w' ∧ ((execOp a.eval o).run P w = .ok (.value v) w' ∨ (∃ f args w1, (execOp a.eval o).run P w = .ok (.enter f args) w1 ∧ Phi f args v) ∨ (∃ w1, (execOp a.eval o).run P w = .ok .skip w1))

theorem wp_of_oneF {E : Act → World → Prop} {o : Oper} {a : Act} {K : Act → Prop} {K' : Act → World → Prop} {Q' : Exit → Act → World → Prop} {w : World} (hw : C w)
    (hE : ∀ v w', came2 P Phi o a w v w' → E (a.put o.dst v) w') (h : ∀ v w', C w' → E (a.put o.dst v) w' → K (a.put o.dst v) → K' (a.put o.dst v) w') (hh : one P C Phi o a K) : o.wp P a w K' Q' := by
  obtain ⟨R, h1, h2⟩ := hh
  have h3 := h1 w hw
  unfold atw at h3
  unfold came2 at hE
  unfold Oper.wp
  generalize (execOp a.eval o).run P w = r at h3 hE ⊢
  cases r with
  | ok n w' =>
    cases n with
    | value u => exact h _ _ h3.1.1 (hE _ _ ⟨h3.1.2, .inl rfl⟩) (h2 u h3.2)
    | skip => exact h _ _ h3.1.1 (hE _ _ ⟨h3.1.2, .inr (.inr ⟨_, rfl⟩)⟩) (h2 _ h3.2)
    | enter f args => exact h3.2.1.mono fun e w'' ⟨v, he, hp, hc, hl⟩ => by subst he; exact h _ _ hc (hE _ _ ⟨h3.1.2.trans (hl.mono h3.1.2.size), .inr (.inl ⟨f, args, w', rfl, hp⟩)⟩) (h2 v (h3.2.2 v hp))
    | _ => exact h3.elim
  | halt x w' => exact h3.elim

theorem wpAny_of_anyOrderF {E : Array Bool → Act → World → Prop} {n g : Nat} {L : Array Bool → Act → Prop} {Q' : Exit → Act → World → Prop} (hL : ∀ listed a w, C w → E listed a w → L listed a → wpAny P md ops Q' g listed a w)
    (hE : ∀ i o a w v w' listed, i < n → ops[i]? = some o → i ∈ Region.ready md ops listed → C w → E listed a w → came2 P Phi o a w v w' → E (listed.setIfInBounds i true) (a.put o.dst v) w') (hg : ∀ i o, i < n → ops[i]? = some o → o.guard = none) :
    ∀ (f : Nat) (listed : Array Bool) (a : Act) (w : World), C w → E listed a w → anyOrder P md ops C Phi n L f listed a → wpAny P md ops Q' (f + g) listed a w
  | 0, listed, a, w, hw, he, h => by rw [Nat.zero_add]; exact hL _ _ _ hw he h
  | f + 1, listed, a, w, hw, he, h => by
    rw [show f + 1 + g = (f + g) + 1 by omega]
    refine ⟨fun h0 => absurd h0 h.1, fun i hi => ?_⟩
    obtain ⟨hin, hop⟩ := h.2 i hi
    unfold wpOp
    cases ho : ops[i]? with
    | none =>
      obtain ⟨_, o, ho', _⟩ := mem_ready.1 hi
      rw [ho] at ho'; cases ho'
    | some o =>
      simp only [opAt, ho] at hop ⊢
      have hwn : Region.wanted o (yielded ops a.tmps) = true := by simp [Region.wanted, hg i o hin ho]
      rw [if_pos hwn] at hop; rw [if_pos hwn]
      exact .inl (wp_of_oneF hw (fun v w' hc => hE i o a w v w' listed hin ho hi hw he hc) (fun v w' hw' he' hk => wpAny_of_anyOrderF hL hE hg f _ _ w' hw' he' hk) hop)

theorem wp_regionF {id : Nat} {Q : Exit → Act → World → Prop} {a : Act} {w : World} {l : List Oper} (n : Nat) (hm : P.follows .mixedOrders = true) (hB : Region.lexTailB .any l.toArray n = true)
    (C : World → Prop) (Phi : FuncId → Array Value → Value → Prop) (E : Array Bool → Act → World → Prop) (hC : C { w with drawn := w.drawn + 1 }) (hE0 : E (Array.replicate l.toArray.size false) a { w with drawn := w.drawn + 1 })
    (hE : ∀ i o a w v w' listed, i < n → l[i]? = some o → i ∈ Region.ready .any l.toArray listed → C w → E listed a w → came2 P Phi o a w v w' → E (listed.setIfInBounds i true) (a.put o.dst v) w') (hg : ((l.take n).all fun o => o.guard.isNone) = true)
    (h : walk P l.toArray C Phi (fun a' => ∀ w', C w' → (∃ listed, n ∈ Region.ready .any l.toArray listed ∧ E listed a' w') → wpList P l.toArray Q (l.drop n) a' w') (l.take n) a) : (Code.region id l.toArray true).wp P Q a w := by
  simp only [Region.lexTailB, Bool.and_eq_true, decide_eq_true_eq] at hB
  obtain ⟨⟨⟨⟨hsel, hn⟩, hs⟩, hc⟩, hlex⟩ := hB
  have hn' : n < l.length := by simpa using hn
  have htl : (l.take n).length = n := by simp; omega
  have hdl : (l.drop n).length = l.toArray.size - n := by simp
  have inv0 : HeadInv .any l.toArray n (Array.replicate l.toArray.size false) :=
    ⟨by simp, fun j oj _ hl => (by rw [getD_replicate_false] at hl; cases hl), fun t _ ht => getD_in (by simpa using ht) (getD_replicate_false _ _)⟩
  have H := anyOrder_lex (md := .any) (g := l.toArray.size - n) hsel (fun listed inv i hi hun => tail_waits hs hc hn inv _ i rfl hi hun) hC (l.take n) 0 _ a (fun j hj => by
    have hj' : j < n := by rw [htl] at hj; exact hj
    simp [hj']) (by simpa using htl) inv0 (by rw [htl]; exact hlex) h
  refine wp_region_any hm ?_
  have := wpAny_of_anyOrderF (Q' := Q) (E := E) (g := l.toArray.size - n) (fun listed a' w' hw' he hL => by
    have := wpAny_of_seq (md := .any) (Q' := Q) (l.drop n) n listed a' w' (fun j => by simp [List.getElem?_drop]) (by rw [hdl]; exact hL.1) (hL.2 w' hw' ⟨_, by
      have h1 := hL.1
      obtain ⟨g', hg'⟩ : ∃ g', l.toArray.size - n = g' + 1 := ⟨l.toArray.size - n - 1, by simp; omega⟩
      rw [hg'] at h1
      simp only [Region.seqB, Bool.and_eq_true, decide_eq_true_eq] at h1
      rw [h1.1]; simp, he⟩)
    rwa [hdl] at this) (fun i o a w v w' listed hi ho => hE i o a w v w' listed hi (by simpa using ho)) (fun i o hi ho => by
      have h1 := List.all_eq_true.1 hg o (List.mem_of_getElem? (i := i) (by rw [List.getElem?_take, if_pos hi]; simpa using ho))
      exact Option.isNone_iff_eq_none.1 h1) _ _ _ _ hC hE0 H
  rw [htl, show n + (l.toArray.size - n) = l.toArray.size by omega] at this
  exact this

theorem walk_weaken {Q Q' : Act → Prop} (hq : ∀ a, Q a → Q' a) : ∀ {l : List Oper} {a : Act}, walk P ops C Phi Q l a → walk P ops C Phi Q' l a
  | [], _, h => hq _ h
  | o :: rest, a, h => by
    unfold walk at h ⊢
    by_cases hw : Region.wanted o (yielded ops a.tmps) = true
    · rw [if_pos hw] at h ⊢; exact one_mono (fun _ h => walk_weaken hq h) h
    · rw [if_neg hw] at h ⊢; exact walk_weaken hq h

/-- Slot d is a new slice of one cell, of R. -/
def MadeS (W : World) (d : Tmp) (R : Value → Prop) (T : TypeId) (a : Act) (w : World) : Prop :=
  ∃ g v, a.tmps.getD d undef = .slice (some ⟨g, 0, none⟩) 1 1 ∧ W.heap.size ≤ g ∧ R v ∧ w.heap[g]? = some (.cells #[v] T (0, 0))

theorem put_size (a : Act) (x : Option Tmp) (v : Value) : (a.put x v).tmps.size = a.tmps.size := by
  cases x with
  | none => rfl
  | some y => simp [Act.put]

theorem getD_put_self (a : Act) (d : Tmp) (v : Value) (h : d < a.tmps.size) : (a.put (some d) v).tmps.getD d undef = v := by
  simp only [Act.put, Array.getD_eq_getD_getElem?]
  rw [Array.getElem?_setIfInBounds_self_of_lt h]
  rfl

/-- THE REGION with a new slice of one cell, made by operation m in slot d of what call c has left in slot e. -/
theorem wp_madeS {id : Nat} {Q : Exit → Act → World → Prop} {a : Act} {w : World} {l : List Oper} (n m c : Nat) (d e : Tmp) (R : Value → Prop) (T : TypeId) (hm : P.follows .mixedOrders = true) (hB : Region.lexTailB .any l.toArray n = true)
    (Phi : FuncId → Array Value → Value → Prop) (hsz : d < a.tmps.size ∧ e < a.tmps.size)
    (hd : ((List.range n).all fun i => i == m || ((l[i]?).bind (·.dst)) != some d) = true)
    (he : ((List.range n).all fun i => i == c || ((l[i]?).bind (·.dst)) != some e) = true)
    (hdep : ∃ om, l[m]? = some om ∧ (om.after.any fun x => x.on == c && Region.binds .any x) = true ∧ om.dst = some d ∧ ∀ (a : Act) (w : World) (v : Value), R v → a.tmps.getD e undef = v → (execOp a.eval om).run P w = .ok (.value (.slice (some ⟨w.heap.size, 0, none⟩) 1 1)) (w.alloc (.cells #[v] T)))
    (hcall : ∃ oc, l[c]? = some oc ∧ oc.dst = some e ∧ ∀ (a : Act) (w : World), ∃ args f, (execOp a.eval oc).run P w = .ok (.enter f args) w)
    (hend : ∃ on, l[n]? = some on ∧ (on.after.any fun x => x.on == m && Region.binds .any x) = true) (hphi : ∀ f args v, Phi f args v → R v)
    (hg : ((l.take n).all fun o => o.guard.isNone) = true)
    (h : walk P l.toArray (fun w' => Go.RowKit.Below w.heap.size w w') Phi (fun a' => ∀ w', Go.RowKit.Below w.heap.size w w' → MadeS w d R T a' w' → wpList P l.toArray Q (l.drop n) a' w') (l.take n) a) : (Code.region id l.toArray true).wp P Q a w := by
  refine wp_regionF n hm hB (fun w' => Go.RowKit.Below w.heap.size w w') Phi (fun listed a w' => (d < a.tmps.size ∧ e < a.tmps.size) ∧ (listed.getD c false = true → R (a.tmps.getD e undef)) ∧ (listed.getD m false = true → MadeS w d R T a w')) ((Go.RowKit.Below.refl _ _).drew)
    ⟨hsz, (fun h => by rw [getD_replicate_false] at h; cases h), (fun h => by rw [getD_replicate_false] at h; cases h)⟩ ?_ hg ?_
  · intro i o a' w1 v w2 listed hi ho hready hw1 hE hc
    obtain ⟨hs, hE1, hE2⟩ := hE
    obtain ⟨om, hom, hdepm, hdstm, hrunm⟩ := hdep
    obtain ⟨oc, hoc, hdstc, hrunc⟩ := hcall
    refine ⟨by rw [put_size]; exact hs, ?_, ?_⟩
    · by_cases hic : i = c
      · subst hic
        have : o = oc := Option.some.inj (ho.symm.trans hoc)
        subst this
        intro _
        rw [hdstc, getD_put_self _ _ _ hs.2]
        obtain ⟨args, f, hr⟩ := hrunc a' w1
        rcases hc.2 with h1 | ⟨f', args', w3, h1, h2⟩ | ⟨w3, h1⟩
        · rw [hr] at h1; cases h1
        · exact hphi _ _ _ h2
        · rw [hr] at h1; cases h1
      · rw [getD_set_ne false hic]
        intro hl
        have hne : o.dst ≠ some e := by
          have h1 := List.all_eq_true.1 he i (List.mem_range.2 hi)
          simp only [ho, Bool.or_eq_true, beq_iff_eq, bne_iff_ne, Option.bind_some] at h1
          rcases h1 with h1 | h1
          · exact absurd h1 hic
          · exact h1
        rw [getD_put _ _ _ _ hne]
        exact hE1 hl
    · by_cases him : i = m
      · subst him
        have : o = om := Option.some.inj (ho.symm.trans hom)
        subst this
        obtain ⟨_, oj, hoj, hall⟩ := mem_ready.1 hready
        have : oj = o := by
          have h1 : l.toArray[i]? = some o := by simpa using ho
          exact Option.some.inj (hoj.symm.trans h1)
        subst this
        obtain ⟨x, hx, hxc⟩ := Array.any_eq_true'.1 hdepm
        rw [Bool.and_eq_true, beq_iff_eq] at hxc
        have hlc : listed.getD c false = true := by rw [← hxc.1]; exact hall x hx hxc.2
        have hR := hE1 hlc
        have hr := hrunm a' w1 _ hR rfl
        rcases hc.2 with h1 | ⟨f', args', w3, h1, h2⟩ | ⟨w3, h1⟩
        · rw [hr] at h1
          injection h1 with e1 e2
          injection e1 with e1
          subst e1; subst e2
          intro _
          exact ⟨w1.heap.size, _, by rw [hdstm, getD_put_self _ _ _ hs.1], hw1.size, hR, by show (w1.heap.push _)[w1.heap.size]? = _; simp⟩
        · rw [hr] at h1; cases h1
        · rw [hr] at h1; cases h1
      · have hne : o.dst ≠ some d := by
          have h1 := List.all_eq_true.1 hd i (List.mem_range.2 hi)
          simp only [ho, Bool.or_eq_true, beq_iff_eq, bne_iff_ne, Option.bind_some] at h1
          rcases h1 with h1 | h1
          · exact absurd h1 him
          · exact h1
        have hle : Go.RowKit.Below w1.heap.size w1 w2 := hc.1
        rw [getD_set_ne false him]
        intro hl
        obtain ⟨g, v', hg1, hg4, hg5, hg6⟩ := hE2 hl
        refine ⟨g, v', by rw [getD_put _ _ _ _ hne]; exact hg1, hg4, hg5, ?_⟩
        have hlt : g < w1.heap.size := by
          rcases Nat.lt_or_ge g w1.heap.size with h' | h'
          · exact h'
          · rw [Array.getElem?_eq_none h'] at hg6; cases hg6
        rw [hle.block g hlt]; exact hg6
  · refine walk_weaken (fun a' h => ?_) h
    intro w' hw' ⟨listed, hr, hE⟩
    refine h w' hw' (hE.2.2 ?_)
    obtain ⟨on, hon, honm⟩ := hend
    obtain ⟨_, oj, hoj, hall⟩ := mem_ready.1 hr
    have : oj = on := by
      have h1 : l.toArray[n]? = some on := by simpa using hon
      exact Option.some.inj (hoj.symm.trans h1)
    subst this
    obtain ⟨x, hx, hxm⟩ := Array.any_eq_true'.1 honm
    rw [Bool.and_eq_true, beq_iff_eq] at hxm
    rw [← hxm.1]; exact hall x hx hxm.2

end
end Go.Qr
