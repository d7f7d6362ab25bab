/-
 Lemmas: W13,L1,W14,W15,S6,S7.
-/
import Derived.Test.YtbiacfkiakddiaaGreatMal
set_option linter.unusedVariables false
set_option linter.unusedSimpArgs false
namespace Go.Proofs.YtbiacfkiakddiaaGreat
open Go.RowKit Go.Fl
/-- A list of nodes lies behind a slice at a place. -/
structure ShapeIn (ns:List PN) (sb so nb no cap:Nat) (w:World):Prop where
 list:w.cell? ⟨sb,so,none⟩ = some (.slice (some ⟨nb,no,none⟩) ns.length cap)
 node:∀ i (h:i < ns.length),NodeIn ns[i] nb (no + i * 4) w

theorem ShapeIn.keep {ns:List PN} {sb so nb no cap:Nat} {w w':World} (h:ShapeIn ns sb so nb no cap w) (hb:Below w.heap.size w w'):ShapeIn ns sb so nb no cap w' :=
 ⟨by rw [lift hb _ (by rw [h.list];rfl)];exact h.list,fun i hi => (h.node i hi).keep hb⟩

/-- Every node is right,its children lie ahead of it. -/
def OkAll (ns:List PN):Prop:=∀ i (h:i < ns.length),ns[i].ok ∧ ((ruleF ns[i].kind).2.1 ≠ 0 → 0 ≤ ns[i].a ∧ ns[i].a < i) ∧ ((ruleF ns[i].kind).2.1 = 2 → 0 ≤ ns[i].b ∧ ns[i].b < i)

def distF (ns:List PN):Nat → Nat → Nat × Nat × Nat → Nat
 | 0,_,_ => 0
 | f + 1,i,p =>
  match ns[i]? with
  | none => 0
  | some n =>
   match (ruleF n.kind).2.1 with
   | 0 => leafF n p.1 p.2.1 p.2.2
   | 1 => mixF n (distF ns f n.a.toNat (pointF n p)) 0
   | _ => mixF n (distF ns f n.a.toNat p) (distF ns f n.b.toNat p)

end Go.Proofs.YtbiacfkiakddiaaGreat

namespace Go.Proofs.YtbiacfkiakddiaaGreat
open Go.RowKit Go.Fl
def takeL (n:Nat) (l:Int):Int:=if l - n < 0 then -1 else l - n
def szL:List PN → Int → Int
 | [],l => l
 | n :: r,l => if takeL n.nums.length l < 0 then -1 else szL r (takeL n.nums.length l)
def szS (ns:List PN) (l:Int):Int:=if takeL ns.length l < 0 then -1 else szL ns (takeL ns.length l)

set_option maxHeartbeats 400000 in
theorem sz_float (bp:Option Addr) (n cap:Nat) (l:Int) (w:World) (hn:n ≤ maxLen) (hl:0 ≤ l ∧ l ≤ 1048576) :
  Calls Tryz.prog 184 #[.slice bp n cap,.int .i64 l] w (fun e w' => e = .returned (.int .i64 (takeL n l)) ∧ Below w.heap.size w w'):=by
 unfold maxLen at hn
 obtain ⟨hl0,hl1⟩:=hl
 have hnI:(n:Int) ≤ 9223372036854775807:=by omega
 by_cases h:l - n < 0
 ·have hv:takeL n l = -1:=by unfold takeL;rw [if_pos h]
  rw [hv]
  go_enter Tryz.func184,Tryz.ntmps184
  go_wp2_with fail
  go_ret
  exact ⟨rfl,Below.refl _ _⟩
 ·have hv:takeL n l = l - n:=by unfold takeL;rw [if_neg h]
  have hv2:0 ≤ l - (n:Int):=by omega
  rw [hv]
  go_enter Tryz.func184,Tryz.ntmps184
  go_wp2_with fail
  go_ret
  exact ⟨rfl,Below.refl _ _⟩

theorem takeL_le {n:Nat} {l:Int} (hl:0 ≤ l ∧ l ≤ 1048576) (h:¬ takeL n l < 0):0 ≤ takeL n l ∧ takeL n l ≤ 1048576 ∧ (n:Int) ≤ 1048576:=by
 unfold takeL at *
 split at h
 ·omega
 ·rename_i h';rw [if_neg h'];omega

set_option maxHeartbeats 400000 in
theorem sz_node (k a b:Int) (bp:Option Addr) (n cap:Nat) (l:Int) (w:World) (hn:n ≤ maxLen) (hl:0 ≤ l ∧ l ≤ 1048576) :
  Calls Tryz.prog 117 #[.agg #[.int .i64 k,.int .i64 a,.int .i64 b,.slice bp n cap],.int .i64 l] w (fun e w' => e = .returned (.int .i64 (takeL n l)) ∧ Below w.heap.size w w'):=by
 have hc:=fun w => sz_float bp n cap l w hn hl
 by_cases h:takeL n l < 0
 ·have hm:takeL n l = -1:=by
   unfold takeL at h ⊢
   split
   ·rfl
   ·rename_i h';rw [if_neg h'] at h;omega
  rw [hm] at hc ⊢
  clear hm h
  go_enter Tryz.func117,Tryz.ntmps117
  go_wp2_with (go_at_call 184;refine (hc _).mono ?_;rintro _ w2 ⟨rfl,hb2⟩)
  go_ret
  exact ⟨rfl,(by repeat' (first | exact Below.refl _ _ | exact Nat.le_refl _ | refine below_drewN ?_ _ | refine Below.alloc ?_ (by simp <;> omega) _ | refine Below.setCell ?_ (by simp <;> omega) _ | refine below_step ?_ (by assumption)))⟩
 ·have h2:=(takeL_le hl h).1
  generalize takeL n l = t at *
  go_enter Tryz.func117,Tryz.ntmps117
  go_wp2_with (go_at_call 184;refine (hc _).mono ?_;rintro _ w2 ⟨rfl,hb2⟩)
  go_ret
  exact ⟨rfl,(by repeat' (first | exact Below.refl _ _ | exact Nat.le_refl _ | refine below_drewN ?_ _ | refine Below.alloc ?_ (by simp <;> omega) _ | refine Below.setCell ?_ (by simp <;> omega) _ | refine below_step ?_ (by assumption)))⟩

/-- A list of nodes lies from a place on;the lists of numbers are not too long. -/
structure NodesIn (ns:List PN) (bp:Option Addr) (nb no:Nat) (w:World):Prop where
 ptr:ns ≠ [] → bp = some ⟨nb,no,none⟩
 node:∀ i (h:i < ns.length),NodeIn ns[i] nb (no + i * 4) w
 long:ns.length ≤ maxLen ∧ ∀ n ∈ ns,n.nums.length ≤ maxLen

theorem NodesIn.keep {ns:List PN} {bp:Option Addr} {nb no:Nat} {w w':World} (h:NodesIn ns bp nb no w) (hb:Below w.heap.size w w'):NodesIn ns bp nb no w' :=
 ⟨h.ptr,fun i hi => (h.node i hi).keep hb,h.long⟩

set_option maxRecDepth 100000 in
set_option maxHeartbeats 2000000 in
theorem sz_nodes (ns:List PN) (bp:Option Addr) (nb no cap:Nat) (l:Int) (w:World) (hns:NodesIn ns bp nb no w) (hl:0 ≤ l ∧ l ≤ 1048576) :
  Calls Tryz.prog 59 #[.slice bp ns.length cap,.int .i64 l] w (fun e w' => e = .returned (.int .i64 (szS ns l)) ∧ Below w.heap.size w w'):=by
 have hlong:=hns.long.1
 unfold maxLen at hlong
 have hlongI:(ns.length:Int) ≤ 9223372036854775807:=by omega
 obtain ⟨hl0,hl1⟩:=hl
 by_cases h:l - ns.length < 0
 ·have hv:szS ns l = -1:=by unfold szS takeL;rw [if_pos h];rfl
  rw [hv]
  clear hns
  go_enter Tryz.func59,Tryz.ntmps59
  go_wp2_with fail
  go_ret
  exact ⟨rfl,Below.refl _ _⟩
 ·have hv2:0 ≤ l - (ns.length:Int):=by omega
  have hv:Hid (szS ns l = szL ns (l - ns.length)):=by
   unfold Hid szS takeL;rw [if_neg h,if_neg h]
  have hlenI:(ns.length:Int) ≤ 1048576:=by omega
  have hlim:l - (ns.length:Int) ≤ 1048576:=by omega
  go_enter Tryz.func59,Tryz.ntmps59
  go_wp2_with fail
  go_loopw [1,5] (fun lv i wr => ∃ (m:Nat) (lx:Int),m ≤ ns.length ∧ i = .int .i64 (m:Int) ∧ lv = .int .i64 lx ∧ 0 ≤ lx ∧ lx ≤ 1048576 ∧ szL (ns.drop m) lx = szL ns (l - ns.length) ∧ Below w.heap.size w wr) (fun _ i _ => ns.length - (intOf i).toNat)
  case atStart => exact ⟨0,_,by omega,rfl,rfl,hv2,hlim,rfl,Below.refl _ _⟩
  case round =>
   obtain ⟨m,lx,hm,rfl,rfl,hx0,hx1,hrun,Wb⟩:=hrel
   by_cases hlt:m < ns.length
   ·have hlt':(m:Int) < (ns.length:Int):=by omega
    have h0:(0:Int) ≤ (m:Int):=by omega
    have hn:=(hns.node m hlt).keep Wb
    have hne:ns ≠ []:=by intro h;rw [h] at hlt;simp at hlt
    have hbp:=hns.ptr hne
    subst hbp
    have hdrop:ns.drop m = ns[m] :: ns.drop (m + 1):=List.drop_eq_getElem_cons hlt
    rw [hdrop,szL] at hrun
    have hnl:=hns.long.2 ns[m] (List.getElem_mem _)
    generalize ns[m] = n at *
    obtain ⟨np,nv,nvo,ncap,hn4,-,-⟩:=hn.nums
    have hn1:=hn.kind
    have hn2:=hn.a
    have hn3:=hn.b
    have hc:=fun w => sz_node n.kind n.a n.b np n.nums.length ncap lx w hnl ⟨hx0,hx1⟩
    have hrH:=Lib.hid hrun
    clear hns hn hdrop hnl hrun
    by_cases ht:takeL n.nums.length lx < 0
    ·have hvv:Hid (szS ns l = -1):=by unfold Hid;rw [hv.out,← hrH.out,if_pos ht]
     go_wp2_with (go_at_call 117;refine (hc _).mono ?_;rintro _ w2 ⟨rfl,hb2⟩)
     go_ret
     exact ⟨by rw [hvv.out];rfl,below_step Wb hb2⟩
    ·have h2:=takeL_le ⟨hx0,hx1⟩ ht
     have hrr:Hid (szL (ns.drop (m + 1)) (takeL n.nums.length lx) = szL ns (l - ns.length)):=by
      unfold Hid;rw [← hrH.out,if_neg ht]
     obtain ⟨h2a,h2b,-⟩:=h2
     generalize takeL n.nums.length lx = t at *
     clear hrH
     go_wp2_with (go_at_call 117;refine (hc _).mono ?_;rintro _ w2 ⟨rfl,hb2⟩)
     exact ⟨⟨m + 1,t,by omega,by simp,rfl,h2a,h2b,hrr.out,below_step Wb hb2⟩,by simp [intOf];omega⟩
   ·obtain rfl:m = ns.length:=by omega
    rw [List.drop_length,szL] at hrun
    have hrH:=Lib.hid hrun
    clear hrun hns
    go_wp2_with fail
    go_ret
    exact ⟨by rw [hv.out,← hrH.out];rfl,Wb⟩

theorem szL_neg {ns:List PN}:∀ {l:Int},0 ≤ l → szL ns l < 0 → szL ns l = -1:=by
 induction ns with
 | nil => intro l h0 h;unfold szL at h;omega
 | cons n r ih =>
  intro l h0 h
  unfold szL at h ⊢
  split
  ·rfl
  ·rename_i ht
   rw [if_neg ht] at h
   exact ih (by omega) h
theorem szS_neg {ns:List PN} {l:Int} (h:szS ns l < 0):szS ns l = -1:=by
 unfold szS at *
 split
 ·rfl
 ·rename_i ht
  rw [if_neg ht] at h
  exact szL_neg (by omega) h

set_option maxHeartbeats 400000 in
theorem sz_shape (ns:List PN) (bp:Option Addr) (nb no cap:Nat) (l:Int) (w:World) (hns:NodesIn ns bp nb no w) (hl:0 ≤ l ∧ l ≤ 1048576) :
  Calls Tryz.prog 13 #[.agg #[.slice bp ns.length cap],.int .i64 l] w (fun e w' => e = .returned (.int .i64 (szS ns l)) ∧ Below w.heap.size w w'):=by
 have hc:=fun w' (h:Below w.heap.size w w') => sz_nodes ns bp nb no cap l w' (hns.keep h) hl
 by_cases h:szS ns l < 0
 ·have hm:=szS_neg h
  rw [hm] at hc ⊢
  clear hm h hns
  go_enter Tryz.func13,Tryz.ntmps13
  go_wp2_with (go_at_call 59;refine (hc _ (by repeat' (first | exact Below.refl _ _ | exact Nat.le_refl _ | refine below_drewN ?_ _ | refine Below.alloc ?_ (by simp <;> omega) _ | refine Below.setCell ?_ (by simp <;> omega) _ | refine below_step ?_ (by assumption)))).mono ?_;rintro _ w2 ⟨rfl,hb2⟩)
  go_ret
  exact ⟨rfl,(by repeat' (first | exact Below.refl _ _ | exact Nat.le_refl _ | refine below_drewN ?_ _ | refine Below.alloc ?_ (by simp <;> omega) _ | refine Below.setCell ?_ (by simp <;> omega) _ | refine below_step ?_ (by assumption)))⟩
 ·have h2:0 ≤ szS ns l:=by omega
  clear hns
  generalize szS ns l = t at *
  go_enter Tryz.func13,Tryz.ntmps13
  go_wp2_with (go_at_call 59;refine (hc _ (by repeat' (first | exact Below.refl _ _ | exact Nat.le_refl _ | refine below_drewN ?_ _ | refine Below.alloc ?_ (by simp <;> omega) _ | refine Below.setCell ?_ (by simp <;> omega) _ | refine below_step ?_ (by assumption)))).mono ?_;rintro _ w2 ⟨rfl,hb2⟩)
  go_ret
  exact ⟨rfl,(by repeat' (first | exact Below.refl _ _ | exact Nat.le_refl _ | refine below_drewN ?_ _ | refine Below.alloc ?_ (by simp <;> omega) _ | refine Below.setCell ?_ (by simp <;> omega) _ | refine below_step ?_ (by assumption)))⟩

theorem szL_small:∀ {ns:List PN} {l:Int},0 ≤ l → l ≤ 1048576 → 0 ≤ szL ns l → ∀ n ∈ ns,(n.nums.length:Int) ≤ 1048576
 | [],_,_,_,_,n,h => by cases h
 | x :: r,l,h0,h1,hs,n,h => by
  unfold szL at hs
  by_cases ht:takeL x.nums.length l < 0
  ·rw [if_pos ht] at hs;omega
  ·rw [if_neg ht] at hs
   have:=takeL_le ⟨h0,h1⟩ ht
   rcases List.mem_cons.1 h with h | h
   ·subst h;exact this.2.2
   ·exact szL_small this.1 this.2.1 hs n h
theorem szS_small {ns:List PN} {l:Int} (h0:0 ≤ l) (h1:l ≤ 1048576) (hs:¬ szS ns l < 0):(ns.length:Int) ≤ 1048576 ∧ ∀ n ∈ ns,(n.nums.length:Int) ≤ 1048576:=by
 unfold szS at hs
 by_cases ht:takeL ns.length l < 0
 ·rw [if_pos ht] at hs;omega
 ·rw [if_neg ht] at hs
  have:=takeL_le ⟨h0,h1⟩ ht
  exact ⟨this.2.2,szL_small this.1 this.2.1 (by omega)⟩
end Go.Proofs.YtbiacfkiakddiaaGreat

namespace Go.Proofs.YtbiacfkiakddiaaGreat
open Go.RowKit Go.Fl
inductive PhiT (ns:List PN):FuncId → Array Value → Value → Prop
 | last (sa:Addr):PhiT ns 83 #[.pointer (some sa)] (.int .i64 ((ns.length:Int) - 1))
 | dist (sa:Addr) (i:Int) (x y z r:Nat) (h:cn .f32 r = distF ns ns.length i.toNat (cn .f32 x,cn .f32 y,cn .f32 z)):PhiT ns 148 #[.pointer (some sa),.int .i64 i,V3 x y z] (F1 r)

theorem last_len {n:Nat} (h:1 ≤ n ∧ n ≤ 1000):wrap64 ((n:Int) - 1) = (n:Int) - 1:=by
 unfold wrap64;omega

end Go.Proofs.YtbiacfkiakddiaaGreat

namespace Go.Proofs.YtbiacfkiakddiaaGreat
open Go.RowKit Go.Fl
def finP (x:Nat):Bool:=eqk .f32 (B .sub (cn .f32 x) (cn .f32 x)) 0

theorem finc_any (a:Nat) (w:World) :
  Calls Tryz.prog 256 #[.float .f32 a] w (fun e w' => e = .returned (.bool (!finP a)) ∧ Below w.heap.size w w'):=by
 go_enter Tryz.func256,Tryz.ntmps256
 go_wp2_with (go_at_call 150;refine (fin_any _ _).mono ?_;rintro _ w2 ⟨rfl,hb1⟩)
 go_ret
 exact ⟨rfl,hb1⟩

theorem any_take_succ (p:Nat → Bool) (xs:List Nat) (m:Nat) (h:m < xs.length) (h0:(xs.take m).any p = false) (h1:p xs[m] = false):(xs.take (m + 1)).any p = false:=by
 rw [List.take_succ_eq_append_getElem h,List.any_append,h0]
 simp [h1]

set_option maxRecDepth 100000 in
set_option maxHeartbeats 1000000 in
theorem index_fin (p:Nat → Bool) (xs:List Nat) (bp:Option Addr) (bv ov cap:Nat) (w:World) (h1:xs ≠ [] → bp = some ⟨bv,ov,none⟩) (h2:∀ i (h:i < xs.length),w.cell? ⟨bv,ov + i,none⟩ = some (.float .f32 xs[i])) (hl:xs.length < 10000000)
  (hcall:∀ x w',Below w.heap.size w w' → Calls Tryz.prog 256 #[.float .f32 x] w' (fun e w'' => e = .returned (.bool (p x)) ∧ Below w'.heap.size w' w'')) :
  Calls Tryz.prog 257 #[.slice bp xs.length cap,.func (.func 256) #[] #[]] w (fun e w' => ∃ r:Int,e = .returned (.int .i64 r) ∧ decide (0 ≤ r) = xs.any p ∧ Below w.heap.size w w'):=by
 go_enter Tryz.func257,Tryz.ntmps257
 go_wp2_with fail
 go_loopw [8] (fun i wr => ∃ m:Nat,m ≤ xs.length ∧ i = .int .i64 (m:Int) ∧ (xs.take m).any p = false ∧ Below w.heap.size w wr) (fun i _ => xs.length - (intOf i).toNat)
 case atStart => exact ⟨0,by omega,rfl,rfl,(by repeat' (first | exact Below.refl _ _ | exact Nat.le_refl _ | refine below_drewN ?_ _ | refine Below.alloc ?_ (by simp <;> omega) _ | refine Below.setCell ?_ (by simp <;> omega) _ | refine below_step ?_ (by assumption)))⟩
 case round =>
  obtain ⟨m,hm,rfl,hany,hwr⟩:=hrel
  by_cases hlt:m < xs.length
  ·have hne:xs ≠ []:=by intro h;rw [h] at hlt;simp at hlt
   have hc:=h2 m hlt
   have hlt':(m:Int) < (xs.length:Int):=by omega
   have h0:(0:Int) ≤ (m:Int):=by omega
   have hc':wr.cell? ⟨bv,ov + m,none⟩ = some (.float .f32 xs[m]):=by rw [lift hwr _ (by rw [hc];rfl)];exact hc
   have hbp:=h1 hne
   subst hbp
   clear h1 h2 hc
   go_wp2_with fail
   refine (hcall _ _ hwr).mono ?_
   rintro _ w2 ⟨rfl,hb2⟩
   have hwr2:=below_step hwr hb2
   cases hp:p xs[m]
   ·go_wp2_with fail
    refine ⟨⟨m + 1,by omega,by simp,any_take_succ p xs m hlt hany hp,hwr2⟩,by simp [intOf];omega⟩
   ·go_wp2_with fail
    go_ret
    refine ⟨_,rfl,?_,hwr2⟩
    rw [show xs.any p = true from List.any_eq_true.2 ⟨xs[m],List.getElem_mem _,hp⟩]
    simp
  ·obtain rfl:m = xs.length:=by omega
   go_wp2_with fail
   go_ret
   exact ⟨_,rfl,by rw [List.take_length] at hany;rw [hany];rfl,hwr⟩
set_option maxRecDepth 100000 in
set_option maxHeartbeats 1000000 in
theorem index_sign (ra:Addr) (p:Nat → Bool) (xs:List Nat) (bp:Option Addr) (bv ov cap:Nat) (w:World) (h1:xs ≠ [] → bp = some ⟨bv,ov,none⟩) (h2:∀ i (h:i < xs.length),w.cell? ⟨bv,ov + i,none⟩ = some (.float .f32 xs[i])) (hl:xs.length < 10000000)
  (hcall:∀ x w',Below w.heap.size w w' → Calls Tryz.prog 206 #[.float .f32 x,.pointer (some ra)] w' (fun e w'' => e = .returned (.bool (p x)) ∧ Below w'.heap.size w' w'')) :
  Calls Tryz.prog 257 #[.slice bp xs.length cap,.func (.func 206) #[] #[.pointer (some ra)]] w (fun e w' => ∃ r:Int,e = .returned (.int .i64 r) ∧ decide (0 ≤ r) = xs.any p ∧ Below w.heap.size w w'):=by
 go_enter Tryz.func257,Tryz.ntmps257
 go_wp2_with fail
 go_loopw [8] (fun i wr => ∃ m:Nat,m ≤ xs.length ∧ i = .int .i64 (m:Int) ∧ (xs.take m).any p = false ∧ Below w.heap.size w wr) (fun i _ => xs.length - (intOf i).toNat)
 case atStart => exact ⟨0,by omega,rfl,rfl,(by repeat' (first | exact Below.refl _ _ | exact Nat.le_refl _ | refine below_drewN ?_ _ | refine Below.alloc ?_ (by simp <;> omega) _ | refine Below.setCell ?_ (by simp <;> omega) _ | refine below_step ?_ (by assumption)))⟩
 case round =>
  obtain ⟨m,hm,rfl,hany,hwr⟩:=hrel
  by_cases hlt:m < xs.length
  ·have hne:xs ≠ []:=by intro h;rw [h] at hlt;simp at hlt
   have hc:=h2 m hlt
   have hlt':(m:Int) < (xs.length:Int):=by omega
   have h0:(0:Int) ≤ (m:Int):=by omega
   have hc':wr.cell? ⟨bv,ov + m,none⟩ = some (.float .f32 xs[m]):=by rw [lift hwr _ (by rw [hc];rfl)];exact hc
   have hbp:=h1 hne
   subst hbp
   clear h1 h2 hc
   go_wp2_with fail
   refine (hcall _ _ hwr).mono ?_
   rintro _ w2 ⟨rfl,hb2⟩
   have hwr2:=below_step hwr hb2
   cases hp:p xs[m]
   ·go_wp2_with fail
    refine ⟨⟨m + 1,by omega,by simp,any_take_succ p xs m hlt hany hp,hwr2⟩,by simp [intOf];omega⟩
   ·go_wp2_with fail
    go_ret
    refine ⟨_,rfl,?_,hwr2⟩
    rw [show xs.any p = true from List.any_eq_true.2 ⟨xs[m],List.getElem_mem _,hp⟩]
    simp
  ·obtain rfl:m = xs.length:=by omega
   go_wp2_with fail
   go_ret
   exact ⟨_,rfl,by rw [List.take_length] at hany;rw [hany];rfl,hwr⟩
set_option maxRecDepth 100000 in
set_option maxHeartbeats 1000000 in
theorem contains_fin (p:Nat → Bool) (xs:List Nat) (bp:Option Addr) (bv ov cap:Nat) (w:World) (h1:xs ≠ [] → bp = some ⟨bv,ov,none⟩) (h2:∀ i (h:i < xs.length),w.cell? ⟨bv,ov + i,none⟩ = some (.float .f32 xs[i])) (hl:xs.length < 10000000)
  (hcall:∀ x w',Below w.heap.size w w' → Calls Tryz.prog 256 #[.float .f32 x] w' (fun e w'' => e = .returned (.bool (p x)) ∧ Below w'.heap.size w' w'')) :
  Calls Tryz.prog 205 #[.slice bp xs.length cap,.func (.func 256) #[] #[]] w (fun e w' => e = .returned (.bool (xs.any p)) ∧ Below w.heap.size w w'):=by
 have hi:=index_fin p xs bp bv ov cap w h1 h2 hl hcall
 clear h1 h2 hcall
 go_enter Tryz.func205,Tryz.ntmps205
 go_wp2_with fail
 refine hi.mono ?_
 rintro _ w2 ⟨r,rfl,hr,hb2⟩
 cases ha:xs.any p
 ·rw [ha] at hr
  have hr':r < 0:=by simpa using hr
  go_wp2_with fail
  go_ret
  exact ⟨by rw [ha];rfl,hb2⟩
 ·rw [ha] at hr
  have hr':0 ≤ r:=by simpa using hr
  go_wp2_with fail
  go_ret
  exact ⟨by rw [ha];rfl,hb2⟩

set_option maxRecDepth 100000 in
set_option maxHeartbeats 1000000 in
theorem contains_sign (ra:Addr) (p:Nat → Bool) (xs:List Nat) (bp:Option Addr) (bv ov cap:Nat) (w:World) (h1:xs ≠ [] → bp = some ⟨bv,ov,none⟩) (h2:∀ i (h:i < xs.length),w.cell? ⟨bv,ov + i,none⟩ = some (.float .f32 xs[i])) (hl:xs.length < 10000000)
  (hcall:∀ x w',Below w.heap.size w w' → Calls Tryz.prog 206 #[.float .f32 x,.pointer (some ra)] w' (fun e w'' => e = .returned (.bool (p x)) ∧ Below w'.heap.size w' w'')) :
  Calls Tryz.prog 205 #[.slice bp xs.length cap,.func (.func 206) #[] #[.pointer (some ra)]] w (fun e w' => e = .returned (.bool (xs.any p)) ∧ Below w.heap.size w w'):=by
 have hi:=index_sign ra p xs bp bv ov cap w h1 h2 hl hcall
 clear h1 h2 hcall
 go_enter Tryz.func205,Tryz.ntmps205
 go_wp2_with fail
 refine hi.mono ?_
 rintro _ w2 ⟨r,rfl,hr,hb2⟩
 cases ha:xs.any p
 ·rw [ha] at hr
  have hr':r < 0:=by simpa using hr
  go_wp2_with fail
  go_ret
  exact ⟨by rw [ha];rfl,hb2⟩
 ·rw [ha] at hr
  have hr':0 ≤ r:=by simpa using hr
  go_wp2_with fail
  go_ret
  exact ⟨by rw [ha];rfl,hb2⟩

theorem finite_any (xs:List Nat) (bp:Option Addr) (bv ov cap:Nat) (w:World) (h1:xs ≠ [] → bp = some ⟨bv,ov,none⟩) (h2:∀ i (h:i < xs.length),w.cell? ⟨bv,ov + i,none⟩ = some (.float .f32 xs[i])) (hl:xs.length < 10000000) :
  Calls Tryz.prog 204 #[.slice bp xs.length cap] w (fun e w' => e = .returned (.bool (!xs.any (fun x => !finP x))) ∧ Below w.heap.size w w'):=by
 have hi:=contains_fin (fun x => !finP x) xs bp bv ov cap w h1 h2 hl (fun x w' _ => finc_any x w')
 clear h1 h2
 go_enter Tryz.func204,Tryz.ntmps204
 go_wp2_with fail
 refine hi.mono ?_
 rintro _ w2 ⟨rfl,hb2⟩
 go_wp2_with fail
 go_ret
 exact ⟨rfl,hb2⟩

def signBad (s:Nat) (x:Nat):Bool:=(s == 1 && ltk .f32 (cn .f32 x) 0) || (s == 2 && lek .f32 (cn .f32 x) 0)

set_option maxRecDepth 100000 in
set_option maxHeartbeats 1000000 in
theorem signc_any (s:Nat) (hs:s ≤ 2) (a rb ro:Nat) (w:World) (h:w.cell? ⟨rb,ro + 3,none⟩ = some (.int .i64 (s:Int))) :
  Calls Tryz.prog 206 #[.float .f32 a,.pointer (some ⟨rb,ro,none⟩)] w (fun e w' => e = .returned (.bool (signBad s a)) ∧ Below w.heap.size w w'):=by
 have:s = 0 ∨ s = 1 ∨ s = 2:=by omega
 rcases this with h | h | h <;> subst h
 all_goals
  go_enter Tryz.func206,Tryz.ntmps206
  go_wp2_with fail
  all_goals
   go_ret
   refine ⟨congrArg (fun b => Ending.returned (.bool b)) (?_:_ = _),Below.refl _ _⟩
   simp [signBad,ltk,lek,ord_r0, *]
end Go.Proofs.YtbiacfkiakddiaaGreat

namespace Go.Proofs.YtbiacfkiakddiaaGreat
open Go.RowKit Go.Fl
def badS (s:Nat) (x:Nat):Bool:=!finP x || signBad s x

theorem s_fin2_any (a:Nat) (w:World) :
  Calls Tryz.prog 149 #[.float .f32 a] w (fun e w' => e = .returned (.bool (finP a)) ∧ Below w.heap.size w w'):=s_fin_any a w

set_option maxRecDepth 100000 in
set_option maxHeartbeats 8000000 in
theorem s_numbers_any (k:Int) (hk:0 ≤ k ∧ k ≤ 16) (xs:List Nat) (bp:Option Addr) (bv ov cap:Nat) (w:World) (h1:xs ≠ [] → bp = some ⟨bv,ov,none⟩) (h2:∀ i (h:i < xs.length),w.cell? ⟨bv,ov + i,none⟩ = some (.float .f32 xs[i])) :
  Calls Tryz.prog 185 #[.int .i64 k,.slice bp xs.length cap] w (fun e w' => e = .returned (.bool (decide (xs.length = (ruleF k).1) && !xs.any (badS (ruleF k).2.2.2))) ∧ Below w.heap.size w w'):=by
 obtain ⟨sg,hsg⟩:∃ sg,sg = (ruleF k).2.2.2:=⟨_,rfl⟩
 rw [← hsg]
 by_cases hlen:xs.length = (ruleF k).1
 ·have hlI:(xs.length:Int) = ((ruleF k).1:Int):=by omega
  have hl4:xs.length < 1000:=by
   rw [hlen];unfold ruleF;split
   ·unfold ruleT;split <;> simp
   ·simp
  have:k = 0 ∨ k = 1 ∨ k = 2 ∨ k = 3 ∨ k = 4 ∨ k = 5 ∨ k = 6 ∨ k = 7 ∨ k = 8 ∨ k = 9 ∨ k = 10 ∨ k = 11 ∨ k = 12 ∨ k = 13 ∨ k = 14 ∨ k = 15 ∨ k = 16:=by omega
  rcases this with h | h | h | h | h | h | h | h | h | h | h | h | h | h | h | h | h
  all_goals
   subst h
   have hcnt:=congrArg I64 hlen.symm
   have hlenH:Hid (xs.length = (ruleF _).1):=hlen
   clear hlen hk hlI
   have hsgH:Hid (sg = (ruleF _).2.2.2):=hsg
   clear hsg
   go_enter Tryz.func185,Tryz.ntmps185
   go_wp2_with (go_at_call 252;refine (s_count_any _ _).mono ?_;rintro _ w2 ⟨rfl,rfl⟩;rw [hcnt])
   clear hcnt
   go_loopw [5] (fun i wr => ∃ m:Nat,m ≤ xs.length ∧ i = .int .i64 (m:Int) ∧ (xs.take m).any (badS sg) = false ∧ Below w.heap.size w wr) (fun i _ => xs.length - (intOf i).toNat)
   case atStart => exact ⟨0,by omega,rfl,rfl,(by repeat' (first | exact Below.refl _ _ | exact Nat.le_refl _ | refine below_drewN ?_ _ | refine Below.alloc ?_ (by simp <;> omega) _ | refine Below.setCell ?_ (by simp <;> omega) _ | refine below_step ?_ (by assumption)))⟩
   case round =>
    obtain ⟨m,hm,rfl,hany,hwr⟩:=hrel
    by_cases hlt:m < xs.length
    ·have hne:xs ≠ []:=by intro h;rw [h] at hlt;simp at hlt
     have hc:=h2 m hlt
     have hlt':(m:Int) < (xs.length:Int):=by omega
     have h0:(0:Int) ≤ (m:Int):=by omega
     have hc':wr.cell? ⟨bv,ov + m,none⟩ = some (.float .f32 xs[m]):=by rw [lift hwr _ (by rw [hc];rfl)];exact hc
     have hbp:=h1 hne
     subst hbp
     have hmem:xs[m] ∈ xs:=List.getElem_mem _
     have hyes:Hid (badS sg xs[m] = true → xs.any (badS sg) = true):=fun h => List.any_eq_true.2 ⟨xs[m],hmem,h⟩
     have hno:Hid (badS sg xs[m] = false → (xs.take (m + 1)).any (badS sg) = false):=fun h => any_take_succ _ xs m hlt hany h
     clear h1 h2 hc hany hmem hne
     generalize xs[m] = v at *
     have hs:=hsgH.out
     cases hfp:finP v
     ·clear hs
      go_wp2_with (go_at_call 149;refine (s_fin2_any _ _).mono ?_;rintro _ w2 ⟨rfl,hb2⟩;rw [hfp])
      go_ret
      exact ⟨by rw [hyes.out (by simp [badS,hfp])];simp,below_step hwr (by assumption)⟩
     ·cases hlt0:(FloatKind.f32.format.order v 0 == some .lt) <;> cases heq0:(FloatKind.f32.format.order v 0 == some .eq)
      all_goals
       have hbad:Hid (badS sg v = signBad sg v):=by unfold Hid;simp only [badS,hfp,Bool.not_true,Bool.false_or]
       clear hs
       have hw3:∀ w2,Below wr.heap.size wr w2 → w2.cell? ⟨bv,ov + m,none⟩ = some (.float .f32 v):=fun w2 h => by rw [lift h _ (by rw [hc'];rfl)];exact hc'
       go_wp2_with (go_at_call 149;refine (s_fin2_any _ _).mono ?_;rintro _ w2 ⟨rfl,hb2⟩;rw [hfp];have hc2:=hw3 _ hb2)
       first
       | (go_ret;exact ⟨by rw [hyes.out (by rw [hbad.out,hsgH.out];simp [signBad,ltk,lek,ord_r0,hlt0,heq0,ruleF,ruleT,kindOk])];simp,below_step hwr (by assumption)⟩)
       | exact ⟨⟨m + 1,by omega,by simp,hno.out (by rw [hbad.out,hsgH.out];simp [signBad,ltk,lek,ord_r0,hlt0,heq0,ruleF,ruleT,kindOk]),below_step hwr (by assumption)⟩,by simp [intOf];omega⟩
    ·obtain rfl:m = xs.length:=by omega
     rw [List.take_length] at hany
     go_wp2_with fail
     go_ret
     exact ⟨by rw [hany,decide_eq_true hlenH.out];rfl,hwr⟩
 ·have hlI:(xs.length:Int) ≠ ((ruleF k).1:Int):=by omega
  have hv:(decide (xs.length = (ruleF k).1) && !xs.any (badS sg)) = false:=by simp [hlen]
  rw [hv]
  clear hv h1 h2
  go_enter Tryz.func185,Tryz.ntmps185
  go_wp2_with (go_at_call 252;refine (s_count_any _ _).mono ?_;rintro _ w2 ⟨rfl,rfl⟩)
  go_ret
  exact ⟨rfl,(by repeat' (first | exact Below.refl _ _ | exact Nat.le_refl _ | refine below_drewN ?_ _ | refine Below.alloc ?_ (by simp <;> omega) _ | refine Below.setCell ?_ (by simp <;> omega) _ | refine below_step ?_ (by assumption)))⟩
end Go.Proofs.YtbiacfkiakddiaaGreat

namespace Go.Proofs.YtbiacfkiakddiaaGreat
open Go.RowKit Go.Fl
def inI (a lo hi:Int):Bool:=decide (lo ≤ a) && decide (a ≤ hi)
def numS (n:PN):Bool:=decide (n.nums.length = (ruleF n.kind).1) && !n.nums.any (badS (ruleF n.kind).2.2.2)
def nodeS (n:PN) (i:Int):Bool :=
 inI n.kind 0 16 && numS n &&
  (if inI n.kind 0 4 then decide (n.a = 0) && decide (n.b = 0) else inI n.a 0 (i - 1) && (if inI n.kind 5 8 then inI n.b 0 (i - 1) else if inI n.kind 12 14 then inI n.b 0 2 else decide (n.b = 0)))

inductive PhiN (n:PN):FuncId → Array Value → Value → Prop
 | inn (a b c:Int):PhiN n 71 #[.int .i64 a,.int .i64 b,.int .i64 c] (.bool (inI a b c))
 | num (k:Int) (v:Value):PhiN n 185 #[.int .i64 k,v] (.bool (numS n))

theorem if_no {c:Prop} [Decidable c] {p q:Prop} (h:¬ c) (hq:q):if c then p else q:=by rw [if_neg h];exact hq
theorem no_w {bv:Bool} (hb:bv = false) (h:(some (!bv) == some false) = true):False:=by subst hb;cases h

set_option maxRecDepth 100000 in
set_option maxHeartbeats 400000 in
theorem s_node_no {n:PN} {b o:Nat} {w:World} (hn:NodeIn n b o w) (hl:n.nums.length < 10000000) (i:Nat) (hi:i < 1000) (hk0:inI n.kind 0 16 = false) :
  Calls Tryz.prog 118 #[.pointer (some ⟨b,o,none⟩),.int .i64 i] w (fun e w' => e = .returned (.bool (nodeS n i)) ∧ Below w.heap.size w w'):=by
 have hK1:=hn.kind
 obtain ⟨nbp,nbv,nov,ncap,hK2,hK3,hK4⟩:=hn.nums
 have hkept:Kept [(⟨b,o,none⟩,.int .i64 n.kind),(⟨b,o + 3,none⟩,.slice nbp n.nums.length ncap)] [] w:=by
  simp only [Kept,ka,kb,kc,kd,ke,kf,kg]
  exact ⟨hK1,hK2⟩
 have hb:b < w.heap.size:=some_lt (a:=⟨b,o,none⟩) (by rw [hK1];rfl)
 ·have hv:Hid (nodeS n i = false):=by unfold Hid;simp only [nodeS,hk0,Bool.false_and]
  have HK0:Hid (inI n.kind 0 16 = false):=Lib.hid hk0
  clear hk0
  go_enter Tryz.func118,Tryz.ntmps118
  go_wp2_with fail
  refine Qr.wp_below_all (by kernel_rfl) (by kernel_rfl) (PhiN n) ?_
  iterate 7 (first | (refine Qr.walk_plain rfl fun K hK => ?_;apply Qr.one_det;(focus (intro w' hw';have HK:=keep hkept hw';simp only [Kept,ka,kb,kc,kd,ke,kf,kg] at HK;go_simp;first | done | rfl));go_simp;refine hK _ ?_;clear hK K) | (refine Qr.walk_plain rfl fun K hK => ?_;apply Qr.one_call;(focus (intro w' hw';go_simp;first | done | exact ⟨rfl,rfl⟩));(focus (intro w' hw'; go_at_call 71;refine (s_in_any _ _ _ _).mono ?_;rintro _ w2 ⟨rfl,rfl⟩;exact ⟨_,rfl,by constructor,hw',Below.refl _ _⟩));intro v hv2;obtain ⟨bv,rfl,HB⟩:∃ bv,v = .bool bv ∧ Hid (bv = false):=(by cases hv2;exact ⟨_,rfl,HK0⟩);go_simp;refine hK _ ?_;clear hK K))
  iterate 10 (refine Qr.walk_step fun K hK => ?_;refine if_no (fun h => no_w HB.out h) ?_;go_simp;refine hK _ ?_;clear hK K)
  refine Qr.walk_plain rfl fun K hK => ?_
  refine Qr.one_det (v:=.bool true) (by intro w' hw';have hb0:=HB.out;subst hb0;go_simp) ?_;go_simp;refine hK _ ?_;clear hK K
  refine Qr.walk_nil fun w6 hw6 => ?_
  go_wp2_with fail
  go_ret
  exact ⟨by rw [hv.out];rfl,hw6⟩

set_option maxRecDepth 100000 in
set_option maxHeartbeats 4000000 in
theorem s_node_any {n:PN} {b o:Nat} {w:World} (hn:NodeIn n b o w) (hl:n.nums.length < 10000000) (i:Nat) (hi:i < 1000) :
  Calls Tryz.prog 118 #[.pointer (some ⟨b,o,none⟩),.int .i64 i] w (fun e w' => e = .returned (.bool (nodeS n i)) ∧ Below w.heap.size w w'):=by
 have hK1:=hn.kind
 obtain ⟨nbp,nbv,nov,ncap,hK2,hK3,hK4⟩:=hn.nums
 have hkept:Kept [(⟨b,o,none⟩,.int .i64 n.kind),(⟨b,o + 3,none⟩,.slice nbp n.nums.length ncap)] [] w:=by
  simp only [Kept,ka,kb,kc,kd,ke,kf,kg]
  exact ⟨hK1,hK2⟩
 have hb:b < w.heap.size:=some_lt (a:=⟨b,o,none⟩) (by rw [hK1];rfl)
 cases hk0:inI n.kind 0 16
 ·exact s_node_no hn hl i hi hk0
 have hnumc:∀ w',Below w.heap.size w w' → Calls Tryz.prog 185 #[.int .i64 n.kind,.slice nbp n.nums.length ncap] w' (fun e w'' => e = .returned (.bool (numS n)) ∧ Below w'.heap.size w' w''):=fun w' h => s_numbers_any n.kind (by simpa [inI] using hk0) n.nums nbp nbv nov ncap w' hK3 (fun i hi => by rw [lift h _ (by rw [hK4 i hi];rfl)];exact hK4 i hi)
 go_enter Tryz.func118,Tryz.ntmps118
 go_wp2_with fail
 refine Qr.wp_below_all (by kernel_rfl) (by kernel_rfl) (PhiN n) ?_
 repeat (first | (refine Qr.walk_plain rfl fun K hK => ?_;apply Qr.one_det;(focus (intro w' hw';have HK:=keep hkept hw';simp only [Kept,ka,kb,kc,kd,ke,kf,kg] at HK;go_simp;first | done | rfl));go_simp;refine hK _ ?_;clear hK K) | (refine Qr.walk_plain rfl fun K hK => ?_;apply Qr.one_call;(focus (intro w' hw';go_simp;first | done | exact ⟨rfl,rfl⟩));(focus (intro w' hw'; go_at_call 71;refine (s_in_any _ _ _ _).mono ?_;rintro _ w2 ⟨rfl,rfl⟩;exact ⟨_,rfl,by constructor,hw',Below.refl _ _⟩));intro v hv;cases hv;go_simp;refine hK _ ?_;clear hK K))
 repeat (first | (refine Qr.walk_step fun K hK => ?_;rw [if_pos (by rfl)];apply Qr.one_det;(focus (intro w' hw';have HK:=keep hkept hw';simp only [Kept,ka,kb,kc,kd,ke,kf,kg] at HK;go_simp;first | done | rfl));go_simp;refine hK _ ?_;clear hK K) | (refine Qr.walk_step fun K hK => ?_;rw [if_pos (by rfl)];apply Qr.one_call;(focus (intro w' hw';go_simp;first | done | exact ⟨rfl,rfl⟩));(focus (intro w' hw'; go_at_call 185;refine (hnumc _ hw').mono ?_;rintro _ w2 ⟨rfl,hb1⟩;exact ⟨_,rfl,by constructor,below_step hw' (by assumption),by assumption⟩));intro v hv;cases hv;go_simp;refine hK _ ?_;clear hK K))
 refine Qr.walk_nil fun w6 hw6 => ?_
 have hA:=(hn.keep hw6).a
 have hB:=(hn.keep hw6).b
 have hK:=(hn.keep hw6).kind
 clear hkept hnumc hK1 hK2 hK3 hK4 hn
 have hi1:(0:Int) ≤ (i:Int):=by omega
 have hi2:(i:Int) < 1000:=by omega
 have hv:Hid (nodeS n i = (numS n && (if inI n.kind 0 4 then decide (n.a = 0) && decide (n.b = 0) else inI n.a 0 (i - 1) && (if inI n.kind 5 8 then inI n.b 0 (i - 1) else if inI n.kind 12 14 then inI n.b 0 2 else decide (n.b = 0))))):=by
  unfold Hid;simp only [nodeS,hk0,Bool.true_and]
 cases hns:numS n
 ·go_wp2_with fail
  go_ret
  exact ⟨by rw [hv.out,hns];rfl,hw6⟩
 have hin:∀ (a c d:Int) (w:World),Calls Tryz.prog 71 #[.int .i64 a,.int .i64 c,.int .i64 d] w (fun e w' => e = .returned (.bool (inI a c d)) ∧ w = w'):=fun a c d w => s_in_any a c d w
 have hleaf:∀ (a:Int) (w:World),Calls Tryz.prog 119 #[.int .i64 a] w (fun e w' => e = .returned (.bool (inI a 0 4)) ∧ w = w'):=fun a w => s_leaf_any a w
 have htwo:∀ (a:Int) (w:World),Calls Tryz.prog 120 #[.int .i64 a] w (fun e w' => e = .returned (.bool (inI a 5 8)) ∧ w = w'):=fun a w => s_two_any a w
 have haxis:∀ (a:Int) (w:World),Calls Tryz.prog 186 #[.int .i64 a] w (fun e w' => e = .returned (.bool (inI a 12 14)) ∧ w = w'):=fun a w => s_axis_any a w
 cases hlf:inI n.kind 0 4
 ·cases hia:inI n.a 0 ((i:Int) - 1) <;> cases htw:inI n.kind 5 8 <;> cases hax:inI n.kind 12 14 <;> by_cases hb':n.b = 0
  all_goals
   go_wp2_with (first
    | (go_at_call 119;refine (hleaf _ _).mono ?_;rintro _ w2 ⟨rfl,rfl⟩;rw [hlf])
    | (go_at_call 120;refine (htwo _ _).mono ?_;rintro _ w2 ⟨rfl,rfl⟩;rw [htw])
    | (go_at_call 186;refine (haxis _ _).mono ?_;rintro _ w2 ⟨rfl,rfl⟩;rw [hax])
    | (go_at_call 71;refine (hin _ _ _ _).mono ?_;rintro _ w2 ⟨rfl,rfl⟩;(try rw [hia])))
   go_ret
   exact ⟨by rw [hv.out,hns,hlf,hia,htw,hax];first | rfl | simp [hb'],hw6⟩
 ·by_cases ha:n.a = 0 <;> by_cases hb':n.b = 0
  all_goals
   go_wp2_with (go_at_call 119;refine (hleaf _ _).mono ?_;rintro _ w2 ⟨rfl,rfl⟩;rw [hlf])
   go_ret
   exact ⟨by rw [hv.out,hns,hlf];simp [ha,hb'],hw6⟩
end Go.Proofs.YtbiacfkiakddiaaGreat
