/-
 Lemmas: Qk.
-/
import Derived.Test.YtbiacfkiakddiaaGreatOaf
set_option linter.unusedVariables false
set_option linter.unusedSimpArgs false
namespace Go.Qh
open Go
/-- Blocks stay,or turn as told. -/
def RrT (Tr:Nat → Option Obj → Option Obj → Prop) (w w':World):Prop:=w.heap.size ≤ w'.heap.size ∧ ∀ b,b < w.heap.size → w'.heap[b]? = w.heap[b]? ∨ Tr b w.heap[b]? w'.heap[b]?
theorem rrt_refl {Tr:Nat → Option Obj → Option Obj → Prop} (w:World):RrT Tr w w:=⟨Nat.le_refl _,fun _ _ => .inl rfl⟩
theorem rrt_trans {Tr:Nat → Option Obj → Option Obj → Prop} (hT:∀ b x y z,Tr b x y → Tr b y z → Tr b x z) {a b c:World} (h:RrT Tr a b) (k:RrT Tr b c):RrT Tr a c :=
 ⟨Nat.le_trans h.1 k.1,fun i hi => by
  rcases h.2 i hi with h1 | h1 <;> rcases k.2 i (Nat.lt_of_lt_of_le hi h.1) with h2 | h2
  ·left;rw [h2,h1]
  ·right;rw [h1] at h2;exact h2
  ·right;rw [h2];exact h1
  ·right;exact hT _ _ _ _ h1 h2⟩
theorem rrt_below {Tr:Nat → Option Obj → Option Obj → Prop} {w w':World} (h:Go.RowKit.Below w.heap.size w w'):RrT Tr w w':=⟨h.size,fun b hb => .inl (h.block b hb)⟩
/-- The words of stores. -/
def FoS (S:Tmp → Nat → World → Prop) (o:Oper) (a:Act) (w:World):Prop:=o.dst = none → ∀ ty d x,o.op = .store ty (.tmp d) x → ∀ g,a.tmps.getD d undef = .pointer (some ⟨g,0,none⟩) → S d g w
theorem aux_mk {ops:Array Oper} {Tr:Nat → Option Obj → Option Obj → Prop} {S:Tmp → Nat → World → Prop} (hT:∀ b x y z,Tr b x y → Tr b y z → Tr b x z) (hS:∀ d g w w',S d g w → RrT Tr w w' → S d g w'):Aux ops (RrT Tr) (FoS S) where
 refl:=rrt_refl
 trans:=rrt_trans hT
 size:=fun h => h.1
 put:=fun o a dst u hd => by
  funext w
  have key:∀ ty d x,o.op = .store ty (.tmp d) x → (a.put dst u).tmps.getD d undef = a.tmps.getD d undef:=fun ty d x ho => getD_put a dst u d (fun e => hd d e (by simp [Oper.looksAt,ho,Op.operands]))
  refine propext (Iff.intro ?_ ?_)
  ·intro h hn ty d x ho g hg
   exact h hn ty d x ho g (by rw [key ty d x ho];exact hg)
  ·intro h hn ty d x ho g hg
   exact h hn ty d x ho g (by rw [← key ty d x ho];exact hg)
 last:=fun h hr hn ty d x ho g hg => hS _ _ _ _ (h hn ty d x ho g hg) hr
 some:=fun hs hn => by rw [hn] at hs;cases hs
end Go.Qh
