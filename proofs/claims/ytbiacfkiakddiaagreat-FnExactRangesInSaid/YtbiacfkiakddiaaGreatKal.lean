/-
 Lemmas: S7,S14,Ro,Rr,W16.
-/
import Derived.Test.YtbiacfkiakddiaaGreatKak
set_option linter.unusedVariables false
set_option linter.unusedSimpArgs false
namespace Go.Proofs.YtbiacfkiakddiaaGreat
open Go.RowKit Go.Fl
def inI (a lo hi:Int):Bool:=decide (lo ≤ a) && decide (a ≤ hi)
def numS (n:PN):Bool:=decide (n.nums.length = (ruleF n.kind).1) && !n.nums.any (badS (ruleF n.kind).2.2.2)
def nodeS (n:PN) (i:Int):Bool :=
 inI n.kind 0 16 && numS n &&
  (if inI n.kind 0 4 then decide (n.a = 0) && decide (n.b = 0) else inI n.a 0 (i - 1) && (if inI n.kind 5 8 then inI n.b 0 (i - 1) else if inI n.kind 12 14 then inI n.b 0 2 else decide (n.b = 0)))

inductive PhiN (n:PN):FuncId → Array Value → Value → Prop
 | inn (a b c:Int):PhiN n 71 #[.int .i64 a,.int .i64 b,.int .i64 c] (.bool (inI a b c))
 | num (k:Int) (v:Value):PhiN n 185 #[.int .i64 k,v] (.bool (numS n))

theorem if_no {c:Prop} [Decidable c] {p q:Prop} (h:¬ c) (hq:q):if c then p else q:=by rw [if_neg h];exact hq
theorem no_w {bv:Bool} (hb:bv = false) (h:(some (!bv) == some false) = true):False:=by subst hb;cases h

set_option maxRecDepth 100000 in
set_option maxHeartbeats 400000 in
theorem s_node_no {n:PN} {b o:Nat} {w:World} (hn:NodeIn n b o w) (hl:n.nums.length < 10000000) (i:Nat) (hi:i < 1000) (hk0:inI n.kind 0 16 = false) :
  Calls Tryz.prog 118 #[.pointer (some ⟨b,o,none⟩),.int .i64 i] w (fun e w' => e = .returned (.bool (nodeS n i)) ∧ Below w.heap.size w w'):=by
 have hK1:=hn.kind
 obtain ⟨nbp,nbv,nov,ncap,hK2,hK3,hK4⟩:=hn.nums
 have hkept:Kept [(⟨b,o,none⟩,.int .i64 n.kind),(⟨b,o + 3,none⟩,.slice nbp n.nums.length ncap)] [] w:=by
  simp only [Kept,ka,kb,kc,kd,ke,and_true,true_and]
  exact ⟨hK1,hK2⟩
 have hb:b < w.heap.size:=some_lt (a:=⟨b,o,none⟩) (by rw [hK1];rfl)
 ·have hv:Hid (nodeS n i = false):=by unfold Hid;simp only [nodeS,hk0,Bool.false_and]
  have HK0:Hid (inI n.kind 0 16 = false):=Lib.hid hk0
  clear hk0
  go_enter Tryz.func118,Tryz.ntmps118
  go_wp2_with fail
  refine Qr.wp_below_all (by kernel_rfl) (by kernel_rfl) (PhiN n) ?_
  iterate 7 (first | (refine Qr.walk_plain rfl fun K hK => ?_;apply Qr.one_det;(focus (intro w' hw';have HK:=keep hkept hw';simp only [Kept,ka,kb,kc,kd,ke,and_true,true_and] at HK;go_simp;first | done | rfl));go_simp;refine hK _ ?_;clear hK K) | (refine Qr.walk_plain rfl fun K hK => ?_;apply Qr.one_call;(focus (intro w' hw';go_simp;first | done | exact ⟨rfl,rfl⟩));(focus (intro w' hw'; go_at_call 71;refine (s_in_any _ _ _ _).mono ?_;rintro _ w2 ⟨rfl,rfl⟩;exact ⟨_,rfl,by constructor,hw',Below.refl _ _⟩));intro v hv2;obtain ⟨bv,rfl,HB⟩:∃ bv,v = .bool bv ∧ Hid (bv = false):=(by cases hv2;exact ⟨_,rfl,HK0⟩);go_simp;refine hK _ ?_;clear hK K))
  iterate 10 (refine Qr.walk_step fun K hK => ?_;refine if_no (fun h => no_w HB.out h) ?_;go_simp;refine hK _ ?_;clear hK K)
  refine Qr.walk_plain rfl fun K hK => ?_
  refine Qr.one_det (v:=.bool true) (by intro w' hw';have hb0:=HB.out;subst hb0;go_simp) ?_;go_simp;refine hK _ ?_;clear hK K
  refine Qr.walk_nil fun w6 hw6 => ?_
  go_wp2_with fail
  go_ret
  exact ⟨by rw [hv.out];rfl,hw6⟩

set_option maxRecDepth 100000 in
set_option maxHeartbeats 4000000 in
theorem s_node_any {n:PN} {b o:Nat} {w:World} (hn:NodeIn n b o w) (hl:n.nums.length < 10000000) (i:Nat) (hi:i < 1000) :
  Calls Tryz.prog 118 #[.pointer (some ⟨b,o,none⟩),.int .i64 i] w (fun e w' => e = .returned (.bool (nodeS n i)) ∧ Below w.heap.size w w'):=by
 have hK1:=hn.kind
 obtain ⟨nbp,nbv,nov,ncap,hK2,hK3,hK4⟩:=hn.nums
 have hkept:Kept [(⟨b,o,none⟩,.int .i64 n.kind),(⟨b,o + 3,none⟩,.slice nbp n.nums.length ncap)] [] w:=by
  simp only [Kept,ka,kb,kc,kd,ke,and_true,true_and]
  exact ⟨hK1,hK2⟩
 have hb:b < w.heap.size:=some_lt (a:=⟨b,o,none⟩) (by rw [hK1];rfl)
 cases hk0:inI n.kind 0 16
 ·exact s_node_no hn hl i hi hk0
 have hnumc:∀ w',Below w.heap.size w w' → Calls Tryz.prog 185 #[.int .i64 n.kind,.slice nbp n.nums.length ncap] w' (fun e w'' => e = .returned (.bool (numS n)) ∧ Below w'.heap.size w' w''):=fun w' h => s_numbers_any n.kind (by simpa [inI] using hk0) n.nums nbp nbv nov ncap w' hK3 (fun i hi => by rw [lift h _ (by rw [hK4 i hi];rfl)];exact hK4 i hi)
 go_enter Tryz.func118,Tryz.ntmps118
 go_wp2_with fail
 refine Qr.wp_below_all (by kernel_rfl) (by kernel_rfl) (PhiN n) ?_
 repeat (first | (refine Qr.walk_plain rfl fun K hK => ?_;apply Qr.one_det;(focus (intro w' hw';have HK:=keep hkept hw';simp only [Kept,ka,kb,kc,kd,ke,and_true,true_and] at HK;go_simp;first | done | rfl));go_simp;refine hK _ ?_;clear hK K) | (refine Qr.walk_plain rfl fun K hK => ?_;apply Qr.one_call;(focus (intro w' hw';go_simp;first | done | exact ⟨rfl,rfl⟩));(focus (intro w' hw'; go_at_call 71;refine (s_in_any _ _ _ _).mono ?_;rintro _ w2 ⟨rfl,rfl⟩;exact ⟨_,rfl,by constructor,hw',Below.refl _ _⟩));intro v hv;cases hv;go_simp;refine hK _ ?_;clear hK K))
 repeat (first | (refine Qr.walk_step fun K hK => ?_;rw [if_pos (by rfl)];apply Qr.one_det;(focus (intro w' hw';have HK:=keep hkept hw';simp only [Kept,ka,kb,kc,kd,ke,and_true,true_and] at HK;go_simp;first | done | rfl));go_simp;refine hK _ ?_;clear hK K) | (refine Qr.walk_step fun K hK => ?_;rw [if_pos (by rfl)];apply Qr.one_call;(focus (intro w' hw';go_simp;first | done | exact ⟨rfl,rfl⟩));(focus (intro w' hw'; go_at_call 185;refine (hnumc _ hw').mono ?_;rintro _ w2 ⟨rfl,hb1⟩;exact ⟨_,rfl,by constructor,below_step hw' (by assumption),by assumption⟩));intro v hv;cases hv;go_simp;refine hK _ ?_;clear hK K))
 refine Qr.walk_nil fun w6 hw6 => ?_
 have hA:=(hn.keep hw6).a
 have hB:=(hn.keep hw6).b
 have hK:=(hn.keep hw6).kind
 clear hkept hnumc hK1 hK2 hK3 hK4 hn
 have hi1:(0:Int) ≤ (i:Int):=by omega
 have hi2:(i:Int) < 1000:=by omega
 have hv:Hid (nodeS n i = (numS n && (if inI n.kind 0 4 then decide (n.a = 0) && decide (n.b = 0) else inI n.a 0 (i - 1) && (if inI n.kind 5 8 then inI n.b 0 (i - 1) else if inI n.kind 12 14 then inI n.b 0 2 else decide (n.b = 0))))):=by
  unfold Hid;simp only [nodeS,hk0,Bool.true_and]
 cases hns:numS n
 ·go_wp2_with fail
  go_ret
  exact ⟨by rw [hv.out,hns];rfl,hw6⟩
 have hin:∀ (a c d:Int) (w:World),Calls Tryz.prog 71 #[.int .i64 a,.int .i64 c,.int .i64 d] w (fun e w' => e = .returned (.bool (inI a c d)) ∧ w = w'):=fun a c d w => s_in_any a c d w
 have hleaf:∀ (a:Int) (w:World),Calls Tryz.prog 119 #[.int .i64 a] w (fun e w' => e = .returned (.bool (inI a 0 4)) ∧ w = w'):=fun a w => s_leaf_any a w
 have htwo:∀ (a:Int) (w:World),Calls Tryz.prog 120 #[.int .i64 a] w (fun e w' => e = .returned (.bool (inI a 5 8)) ∧ w = w'):=fun a w => s_two_any a w
 have haxis:∀ (a:Int) (w:World),Calls Tryz.prog 186 #[.int .i64 a] w (fun e w' => e = .returned (.bool (inI a 12 14)) ∧ w = w'):=fun a w => s_axis_any a w
 cases hlf:inI n.kind 0 4
 ·cases hia:inI n.a 0 ((i:Int) - 1) <;> cases htw:inI n.kind 5 8 <;> cases hax:inI n.kind 12 14 <;> by_cases hb':n.b = 0
  all_goals
   go_wp2_with (first
    | (go_at_call 119;refine (hleaf _ _).mono ?_;rintro _ w2 ⟨rfl,rfl⟩;rw [hlf])
    | (go_at_call 120;refine (htwo _ _).mono ?_;rintro _ w2 ⟨rfl,rfl⟩;rw [htw])
    | (go_at_call 186;refine (haxis _ _).mono ?_;rintro _ w2 ⟨rfl,rfl⟩;rw [hax])
    | (go_at_call 71;refine (hin _ _ _ _).mono ?_;rintro _ w2 ⟨rfl,rfl⟩;(try rw [hia])))
   go_ret
   exact ⟨by rw [hv.out,hns,hlf,hia,htw,hax];first | rfl | simp [hb'],hw6⟩
 ·by_cases ha:n.a = 0 <;> by_cases hb':n.b = 0
  all_goals
   go_wp2_with (go_at_call 119;refine (hleaf _ _).mono ?_;rintro _ w2 ⟨rfl,rfl⟩;rw [hlf])
   go_ret
   exact ⟨by rw [hv.out,hns,hlf];simp [ha,hb'],hw6⟩
end Go.Proofs.YtbiacfkiakddiaaGreat

namespace Go.Proofs.YtbiacfkiakddiaaGreat
open Go.RowKit Go.Fl
abbrev V:=Nat × Nat × Nat
theorem kids_in {k:Int} (h:0 ≤ k ∧ k ≤ 16):(inI k 0 4 = decide ((ruleF k).2.1 = 0)) ∧ (inI k 5 8 = decide ((ruleF k).2.1 = 2)):=by
 have:k = 0 ∨ k = 1 ∨ k = 2 ∨ k = 3 ∨ k = 4 ∨ k = 5 ∨ k = 6 ∨ k = 7 ∨ k = 8 ∨ k = 9 ∨ k = 10 ∨ k = 11 ∨ k = 12 ∨ k = 13 ∨ k = 14 ∨ k = 15 ∨ k = 16:=by omega
 rcases this with h | h | h | h | h | h | h | h | h | h | h | h | h | h | h | h | h <;> subst h <;> decide

end Go.Proofs.YtbiacfkiakddiaaGreat

namespace Go.Proofs.YtbiacfkiakddiaaGreat
open Go.RowKit Go.Fl Go.ChangeShapes Go.WideShapes Go.Deep
section
variable {H:Type} {enc:TypeId × Value → H} {P:Program} {w:World} {base:Nat} {spare:Nat → Bool} {held:Bool}
theorem trod_flt {t:TypeId} {k:FloatKind} {fuel:Nat} {cs:List Value} {x:DataW H × List MemPlace} (ht:P.underlying t = some (.float k)) (h:DataW.trod enc P w base spare held fuel t cs = some x):∃ b,cs = [.float k b]:=by
 cases fuel with
 | zero => simp [DataW.trod] at h
 | succ n =>
  unfold DataW.trod at h
  rw [ht] at h
  split at h <;> simp_all

theorem add_off (a:Addr) (i j:Nat) (h:a.spot = none):(a.add i).add j = ⟨a.block,a.off + i + j,none⟩:=by
 obtain ⟨b,o,s⟩:=a
 simp only at h
 subst h
 rw [Go.WideShapes.add_plain,Go.WideShapes.add_plain]
end
theorem four {α:Type} {l:List α} (h:l.length = 4):∃ a b c d,l = [a,b,c,d]:=by
 match l,h with
 | [a,b,c,d],_ => exact ⟨a,b,c,d,rfl⟩

theorem list_of {Pp:Nat → PN → Prop}:∀ n,(∀ i,i < n → ∃ x,Pp i x) → ∃ ns:List PN,ns.length = n ∧ ∀ i (h:i < ns.length),Pp i ns[i]
 | 0,_ => ⟨[],rfl,fun i h => by simp at h⟩
 | n + 1,h => by
  obtain ⟨ns,h1,h2⟩:=list_of n (fun i hi => h i (by omega))
  obtain ⟨x,hx⟩:=h n (by omega)
  refine ⟨ns ++ [x],by simp [h1],fun i hi => ?_⟩
  by_cases e:i < ns.length
  ·rw [List.getElem_append_left e];exact h2 i e
  ·have:i = n:=by simp at hi;omega
   subst this
   rw [List.getElem_append_right (by omega)]
   simpa [h1] using hx

theorem nats_of {Pp:Nat → Nat → Prop}:∀ n,(∀ i,i < n → ∃ x,Pp i x) → ∃ ns:List Nat,ns.length = n ∧ ∀ i (h:i < ns.length),Pp i ns[i]
 | 0,_ => ⟨[],rfl,fun i h => by simp at h⟩
 | n + 1,h => by
  obtain ⟨ns,h1,h2⟩:=nats_of n (fun i hi => h i (by omega))
  obtain ⟨x,hx⟩:=h n (by omega)
  refine ⟨ns ++ [x],by simp [h1],fun i hi => ?_⟩
  by_cases e:i < ns.length
  ·rw [List.getElem_append_left e];exact h2 i e
  ·have:i = n:=by simp at hi;omega
   subst this
   rw [List.getElem_append_right (by omega)]
   simpa [h1] using hx

/-- A list of numbers that came in. -/
theorem open_nums {H:Type} {enc:TypeId × Value → H} {w:World} {base fuel:Nat} {spare:Nat → Bool} {held:Bool} {cs:List Value} {x:DataW H × List MemPlace} (h:DataW.trod enc Tryz.prog w base spare held fuel 140 cs = some x) :
  ∃ (xs:List Nat) (bp:Option Addr) (bv ov cap:Nat),cs = [.slice bp xs.length cap] ∧ xs.length ≤ maxLen ∧ (xs ≠ [] → bp = some ⟨bv,ov,none⟩) ∧ ∀ i (h:i < xs.length),w.cell? ⟨bv,ov + i,none⟩ = some (.float .f32 xs[i]):=by
 rcases open_slice1 Tryz.underlying140 (by kernel_rfl) h with ⟨rfl,-⟩ | ⟨a,len,cap,m,n,V,D,Pl,rfl,-,hlc,hcm,hmm,-,hcell⟩
 ·exact ⟨[],none,0,0,0,rfl,Nat.zero_le _,fun h => absurd rfl h,fun i hi => by simp at hi⟩
 ·have hm:len ≤ m:=by rw [hmm];split <;> omega
  have hx:∀ i,i < len → ∃ b,w.cell? (a.add i) = some (.float .f32 b):=fun i hi => by
   obtain ⟨h1,h2⟩:=hcell i (by omega)
   obtain ⟨b,hb⟩:=trod_flt Tryz.underlying25 h2
   injection hb with hb
   exact ⟨b,by rw [h1,hb]⟩
  obtain ⟨xs,rfl,hxs⟩:=nats_of len hx
  obtain ⟨b,off,spot⟩:=a
  refine ⟨xs,some ⟨b,off,spot⟩,b,off,cap,rfl,by omega,fun hne => ?_,fun i hi => ?_⟩
  ·have h0:0 < xs.length:=List.length_pos_iff.2 hne
   have:=World.cell?_spot (hxs 0 h0)
   have hspot:spot = none:=by simpa [Addr.add] using this
   rw [hspot]
  ·have h0:0 < xs.length:=by omega
   have:=World.cell?_spot (hxs 0 h0)
   have hspot:spot = none:=by simpa [Addr.add] using this
   subst hspot
   rw [← Go.WideShapes.add_plain]
   exact hxs i hi

theorem trod_i64 {H:Type} {enc:TypeId × Value → H} {w:World} {base fuel:Nat} {spare:Nat → Bool} {held:Bool} {cs:List Value} {x:DataW H × List MemPlace} (h:DataW.trod enc Tryz.prog w base spare held fuel 2 cs = some x):∃ n,cs = [.int .i64 n]:=by
 obtain ⟨n,h1,-⟩:=DataW.trod_int Tryz.underlying2 h
 exact ⟨n,h1⟩

set_option maxRecDepth 100000 in
/-- A list of nodes that came in. -/
theorem open_nodes {H:Type} {enc:TypeId × Value → H} {w:World} {base fuel:Nat} {spare:Nat → Bool} {held:Bool} {cs:List Value} {x:DataW H × List MemPlace} (h:DataW.trod enc Tryz.prog w base spare held fuel 22 cs = some x) :
  ∃ (ns:List PN) (bp:Option Addr) (nb no cap:Nat),cs = [.slice bp ns.length cap] ∧ NodesIn ns bp nb no w:=by
 rcases open_slice Tryz.underlying22 h with ⟨rfl,-⟩ | ⟨a,len,cap,m,n,D,Pl,rfl,-,hlc,hcm,hmm,-,hel⟩
 ·exact ⟨[],none,0,0,0,rfl,fun h => absurd rfl h,fun i hi => by simp at hi,Nat.zero_le _,fun n hn => by cases hn⟩
 ·have hm:len ≤ m:=by rw [hmm];split <;> omega
  have hC:Tryz.prog.cellsOf 175 = 4:=by kernel_rfl
  have hx:∀ i,i < len → ∃ n:PN,(a.spot = none ∧ NodeIn n a.block (a.off + i * 4) w) ∧ n.nums.length ≤ maxLen:=fun i hi => by
   obtain ⟨cs',hc,ht⟩:=hel i (by omega)
   rw [hC] at hc
   obtain ⟨-,hcl,hat⟩:=World.cells?_some hc
   obtain ⟨ys,n',-,-,-,hyl,hf⟩:=DataW.trod_struct Tryz.underlying175 ht
   obtain ⟨c0,c1,c2,c3,rfl⟩:=four hcl
   obtain ⟨y0,y1,y2,y3,rfl⟩:=four (hyl.trans rfl)
   obtain ⟨cs0,hz,-⟩:=hel 0 (by omega)
   rw [hC] at hz
   obtain ⟨-,hzl,hzat⟩:=World.cells?_some hz
   have hz0:=hzat 0 (by omega)
   have hspot:a.spot = none:=by
    obtain ⟨z0,z1,z2,z3,rfl⟩:=four hzl
    have:=World.cell?_spot (show w.cell? ((a.add (0 * 4)).add 0) = some z0 from hz0)
    simpa [Addr.add] using this
   have f0:=hf 0 _ rfl
   have f1:=hf 1 _ rfl
   have f2:=hf 2 _ rfl
   have f3:=hf 3 _ rfl
   have t0:DataW.trod enc Tryz.prog w base spare held n' 2 [c0] = some y0:=f0
   have t1:DataW.trod enc Tryz.prog w base spare held n' 2 [c1] = some y1:=f1
   have t2:DataW.trod enc Tryz.prog w base spare held n' 2 [c2] = some y2:=f2
   have t3:DataW.trod enc Tryz.prog w base spare held n' 140 [c3] = some y3:=f3
   obtain ⟨k,e0⟩:=trod_i64 t0
   obtain ⟨na,e1⟩:=trod_i64 t1
   obtain ⟨nb,e2⟩:=trod_i64 t2
   obtain ⟨xs,bp,bv,ov,cp,e3,hxl,hp,hcells⟩:=open_nums t3
   injection e0 with e0
   injection e1 with e1
   injection e2 with e2
   injection e3 with e3
   have hc0:=hat 0 (by omega)
   have hc1:=hat 1 (by omega)
   have hc2:=hat 2 (by omega)
   have hc3:=hat 3 (by omega)
   have had:∀ j,(a.add (i * 4)).add j = ⟨a.block,a.off + i * 4 + j,none⟩:=fun j => by exact add_off a (i * 4) j hspot
   rw [had] at hc0 hc1 hc2 hc3
   rw [Nat.add_zero] at hc0
   refine ⟨⟨k,na,nb,xs⟩,⟨hspot,⟨?_,?_,?_,bp,bv,ov,cp,?_,hp,hcells⟩⟩,hxl⟩
   ·rw [hc0,← e0];rfl
   ·rw [hc1,← e1];rfl
   ·rw [hc2,← e2];rfl
   ·rw [hc3,← e3];rfl
  obtain ⟨ns,rfl,hns⟩:=list_of len hx
  refine ⟨ns,some a,a.block,a.off,cap,rfl,fun hne => ?_,fun i hi => (hns i hi).1.2,by omega,fun n hn => ?_⟩
  ·have h0:0 < ns.length:=List.length_pos_iff.2 hne
   have:=(hns 0 h0).1.1
   obtain ⟨b,o,s⟩:=a
   simp only at this
   rw [this]
  ·obtain ⟨i,hi,rfl⟩:=List.getElem_of_mem hn
   exact (hns i hi).2

theorem three {α:Type} {l:List α} (h:l.length = 3):∃ a b c,l = [a,b,c]:=by
 match l,h with
 | [a,b,c],_ => exact ⟨a,b,c,rfl⟩
theorem uno {α:Type} {l:List α} (h:l.length = 1):∃ a,l = [a]:=by
 match l,h with
 | [a],_ => exact ⟨a,rfl⟩

set_option maxRecDepth 100000 in
/-- A shape that came in. -/
theorem open_shape {H:Type} {enc:TypeId × Value → H} {w:World} {base b0:Nat} {r:Reach} {spare:Nat → Bool} {held:Bool} {v:Value} {d:DataW H} {p:List MemPlace} (hv:Value.okWide Tryz.prog w r b0 24 v) (h:DataW.Trod enc Tryz.prog w base spare held 24 v d p) :
  ∃ (ns:List PN) (bp:Option Addr) (nb no cap:Nat),v = .agg #[.slice bp ns.length cap] ∧ NodesIn ns bp nb no w:=by
 obtain ⟨cs,rfl,hsz⟩:=okWide_struct Tryz.underlying24 hv
 have hC:Tryz.prog.cellsOf 24 = 1:=by kernel_rfl
 obtain ⟨l⟩:=cs
 obtain ⟨c0,rfl⟩:=uno (show l.length = 1 from hsz.trans hC)
 obtain ⟨fuel,hf⟩:=h
 obtain ⟨ys,n',-,-,-,hyl,hg⟩:=DataW.trod_struct Tryz.underlying24 hf
 obtain ⟨y0,rfl⟩:=uno (hyl.trans rfl)
 have f0:=hg 0 _ rfl
 have t0:DataW.trod enc Tryz.prog w base spare held n' 22 [c0] = some y0:=f0
 obtain ⟨ns,bp,nb,no,cap,e,hns⟩:=open_nodes t0
 injection e with e
 exact ⟨ns,bp,nb,no,cap,by rw [e],hns⟩

open Go.RowKit Go.Fl Go.ChangeShapes Go.WideShapes Go.ChangeAt
theorem own_knob:ownKnob Tryz.prog.godebug = none:=by kernel_rfl
theorem laid_out:laidOutB Tryz.prog = true:=by kernel_rfl

/-- The row's last step where nothing has turned that was there. -/
theorem post_below {H:Type} {enc:TypeId × Value → H} {P:Program} {f:Func} {s:ChangeSpec} {apart fresh handsOn again:Bool} {W W':World} {args:Array Value} {v:Value} {ds gs:List (DataW H)} {before pa pv:List MemPlace}
  (hW:DataW.Whole enc P f.params.toList s.vars apart W args.toList ds gs before)
  (hres:∀ (b:Nat) (sp:Nat → Bool) (hd:Bool),DataW.TrodAll enc P W' b sp hd f.resultTypes.toList (v.resultList f.resultTypes.size) (s.fn H (ds ++ gs)).results [])
  (hargs:∀ sp:Nat → Bool,(∀ p ∈ before,sp p.block = true) → DataW.TrodAll enc P W' 0 sp true f.params.toList args.toList (s.fn H (ds ++ gs)).args pa)
  (hvars:∀ sp:Nat → Bool,(∀ p ∈ before,sp p.block = true) → DataW.TrodVars enc P W' sp s.vars (s.fn H (ds ++ gs)).vars pv)
  (hps:before = pa ++ pv) (hb:Below W.heap.size W W')
  (hok:∀ (j:Nat) (t:TypeId) (r:Value),f.resultTypes[j]? = some t → (v.resultList f.resultTypes.size)[j]? = some r → Value.okWide P W' .any 0 t r) :
  s.post enc P f apart fresh handsOn again W args v W':=by
 have hold:∀ p ∈ before,(fun b => decide (b < W.heap.size)) p.block = true:=fun p hp => by simpa using hW.lt p hp
 refine ⟨ds,gs,before,[],pa,pv,hW,hres _ _ _,hargs _ hold,hvars _ hold,World.keptBut_mono (fun p hp => ⟨hp,?_⟩) (hb.frame (· ∈ before)),fun _ => ?_⟩
 ·rw [hps,List.mem_append] at hp
  exact .inr hp
 ·have hlt:∀ p ∈ before,p.block < W.heap.size:=fun p hp => hW.lt p hp
  obtain ⟨_,_,_,_,_,hz,hn⟩:=hW
  refine ⟨hok,_,_,([] ++ pa) ++ pv,⟨[] ++ pa,pv,trodAll_append (hargs _ (fun _ _ => rfl)) (hres _ _ _),hvars _ (fun _ _ => rfl),rfl,?_,?_⟩,?_⟩
  ·intro b off hp
   have hin:MemPlace.cell b off ∈ before:=by rw [hps];simpa using hp
   have h1:=hlt _ hin
   rw [hb.frozen h1]
   exact hz b off hin
  ·intro ha
   have:=hn ha
   rw [hps] at this
   simpa using this
  ·intro p hp _
   rw [hps]
   simpa using hp

end Go.Proofs.YtbiacfkiakddiaaGreat

namespace Go.Proofs.YtbiacfkiakddiaaGreat
open Go.RowKit Go.Fl Go.ChangeShapes Go.WideShapes Go.ChangeAt
theorem and_mk {a b:Bool} (h:a = true) (k:b = true):(a && b) = true:=by rw [h,k];rfl
theorem six {α:Type} {l:List α} (h:l.length = 6):∃ a b c d e f,l = [a,b,c,d,e,f]:=by
 match l,h with
 | [a,b,c,d,e,f],_ => exact ⟨a,b,c,d,e,f,rfl⟩
theorem duo {α:Type} {l:List α} (h:l.length = 2):∃ a b,l = [a,b]:=by
 match l,h with
 | [a,b],_ => exact ⟨a,b,rfl⟩

set_option maxRecDepth 100000 in
/-- Three cells of a vector. -/
theorem trod_vec {H:Type} {enc:TypeId × Value → H} {w:World} {base fuel:Nat} {spare:Nat → Bool} {held:Bool} {c0 c1 c2:Value} {x:DataW H × List MemPlace} (h:DataW.trod enc Tryz.prog w base spare held fuel 27 [c0,c1,c2] = some x) :
  ∃ a b c:Nat,c0 = F1 a ∧ c1 = F1 b ∧ c2 = F1 c:=by
 obtain ⟨ys,n',-,-,-,hyl,hg⟩:=DataW.trod_struct Tryz.underlying27 h
 obtain ⟨y0,y1,y2,rfl⟩:=three (hyl.trans rfl)
 have t0:DataW.trod enc Tryz.prog w base spare held n' 25 [c0] = some y0:=hg 0 _ rfl
 have t1:DataW.trod enc Tryz.prog w base spare held n' 25 [c1] = some y1:=hg 1 _ rfl
 have t2:DataW.trod enc Tryz.prog w base spare held n' 25 [c2] = some y2:=hg 2 _ rfl
 obtain ⟨x,e0⟩:=trod_flt Tryz.underlying25 t0
 obtain ⟨y,e1⟩:=trod_flt Tryz.underlying25 t1
 obtain ⟨z,e2⟩:=trod_flt Tryz.underlying25 t2
 injection e0 with e0
 injection e1 with e1
 injection e2 with e2
 exact ⟨x,y,z,e0,e1,e2⟩

set_option maxRecDepth 100000 in
/-- A box that came in. -/
theorem open_box {H:Type} {enc:TypeId × Value → H} {w:World} {base b0:Nat} {r:Reach} {spare:Nat → Bool} {held:Bool} {v:Value} {d:DataW H} {p:List MemPlace} (hv:Value.okWide Tryz.prog w r b0 29 v) (h:DataW.Trod enc Tryz.prog w base spare held 29 v d p) :
  ∃ a b c d e f:Nat,v = .agg #[F1 a,F1 b,F1 c,F1 d,F1 e,F1 f]:=by
 obtain ⟨cs,rfl,hsz⟩:=okWide_struct Tryz.underlying29 hv
 have hC:Tryz.prog.cellsOf 29 = 6:=by kernel_rfl
 obtain ⟨l⟩:=cs
 obtain ⟨c0,c1,c2,c3,c4,c5,rfl⟩:=six (show l.length = 6 from hsz.trans hC)
 obtain ⟨fuel,hf⟩:=h
 obtain ⟨ys,n',-,-,-,hyl,hg⟩:=DataW.trod_struct Tryz.underlying29 hf
 obtain ⟨y0,y1,rfl⟩:=duo (hyl.trans rfl)
 have t0:DataW.trod enc Tryz.prog w base spare held n' 27 [c0,c1,c2] = some y0:=hg 0 _ rfl
 have t1:DataW.trod enc Tryz.prog w base spare held n' 27 [c3,c4,c5] = some y1:=hg 1 _ rfl
 obtain ⟨a,b,c,e0,e1,e2⟩:=trod_vec t0
 obtain ⟨d',e',f',e3,e4,e5⟩:=trod_vec t1
 exact ⟨a,b,c,d',e',f',by rw [e0,e1,e2,e3,e4,e5]⟩
end Go.Proofs.YtbiacfkiakddiaaGreat

namespace Go.Proofs.YtbiacfkiakddiaaGreat
open Go.RowKit Go.Fl
def numOk (k:Int) (xs:List Nat):Bool:=kindOk k && decide (xs.length = (ruleF k).1) && !xs.any (fun x => !finP x) && !xs.any (signBad (ruleF k).2.2.2)
theorem sign_le (k:Int):(ruleF k).2.2.2 ≤ 2:=by
 unfold ruleF;split
 ·unfold ruleT;split <;> simp
 ·simp

set_option maxRecDepth 100000 in
set_option maxHeartbeats 1000000 in
theorem numbersOk_any (k:Int) (xs:List Nat) (bp:Option Addr) (bv ov cap:Nat) (w:World) (h1:xs ≠ [] → bp = some ⟨bv,ov,none⟩) (h2:∀ i (h:i < xs.length),w.cell? ⟨bv,ov + i,none⟩ = some (.float .f32 xs[i])) (hl:xs.length < 10000000) :
  Calls Tryz.prog 128 #[.int .i64 k,.slice bp xs.length cap] w (fun e w' => e = .returned (.bool (numOk k xs)) ∧ Below w.heap.size w w'):=by
 go_enter Tryz.func128,Tryz.ntmps128
 go_wp2_with fail
 refine (rule_any k w).mono ?_
 rintro _ w2 ⟨rfl,hb2⟩
 have hr2:(ruleF k).2.2.2 ≤ 2:=sign_le k
 have W3b:Below w.heap.size w (w2.alloc (.cells #[I64 (ruleF k).1,I64 (ruleF k).2.1,.bool (ruleF k).2.2.1,I64 (ruleF k).2.2.2] 217)):=hb2.alloc hb2.size _
 have hkept:Kept [(⟨w2.heap.size,0,none⟩,I64 (ruleF k).1),(⟨w2.heap.size,3,none⟩,I64 (ruleF k).2.2.2)] [] (w2.alloc (.cells #[I64 (ruleF k).1,I64 (ruleF k).2.1,.bool (ruleF k).2.2.1,I64 (ruleF k).2.2.2] 217)):=by
  simp only [Kept,ka,kb,kc,kd,ke,and_true,true_and]
  simp
 simp only [ruleV]
 have hn:numOk k xs = (kindOk k && decide (xs.length = (ruleF k).1) && !xs.any (fun x => !finP x) && !xs.any (signBad (ruleF k).2.2.2)):=rfl
 generalize kindOk k = ko at *
 generalize hrk:ruleF k = rk at *
 obtain ⟨n0,n1,n2,n3⟩:=rk
 simp only at hn hr2 W3b hkept ⊢
 have W3c:Below w.heap.size w (w2.alloc (.cells #[I64 n0,I64 n1,.bool n2,I64 n3] 217)):=W3b
 have h3:∀ i (h:i < xs.length),(w2.alloc (.cells #[I64 n0,I64 n1,.bool n2,I64 n3] 217)).cell? ⟨bv,ov + i,none⟩ = some (.float .f32 xs[i]):=fun i hi => by rw [lift W3c _ (by rw [h2 i hi];rfl)];exact h2 i hi
 clear h2
 cases ko
 ·go_wp2_with fail
  go_ret
  exact ⟨by rw [hn];rfl,W3c⟩
 by_cases hlen:xs.length = n0
 ·subst hlen
  have hfin:=finite_any xs bp bv ov cap _ h1 h3 hl
  go_wp2_with fail
  refine hfin.mono ?_
  rintro _ w4 ⟨rfl,hb4⟩
  have W4b:=below_step W3c hb4
  cases hf:xs.any (fun x => !finP x)
  ·have h4:∀ i (h:i < xs.length),w4.cell? ⟨bv,ov + i,none⟩ = some (.float .f32 xs[i]):=fun i hi => by rw [lift hb4 _ (by rw [h3 i hi];rfl)];exact h3 i hi
   have hkept4:=keep hkept hb4
   have hc:=contains_sign ⟨w2.heap.size,0,none⟩ (signBad n3) xs bp bv ov cap w4 h1 h4 hl (fun x w' hw' => signc_any n3 hr2 x w2.heap.size 0 w' (by
    have hK:=keep hkept4 hw'
    simp only [Kept,ka,kb,kc,kd,ke,and_true,true_and] at hK
    exact hK.2))
   clear h1 h3 h4 hkept hfin
   go_wp2_with fail
   refine hc.mono ?_
   rintro _ w5 ⟨rfl,hb5⟩
   go_wp2_with fail
   go_ret
   exact ⟨by rw [hn,hf];simp,below_step W4b hb5⟩
  ·clear h1 h3
   go_wp2_with fail
   go_ret
   exact ⟨by rw [hn,hf];simp,W4b⟩
 ·have hlen':(xs.length:Int) ≠ (n0:Int):=by omega
  clear h1 h3
  go_wp2_with fail
  go_ret
  exact ⟨by rw [hn];simp [hlen],W3c⟩

def axOk (k a b:Int):Bool:=(decide (0 < (ruleF k).2.1) || decide (a = 0)) && (decide ((ruleF k).2.1 = 2) || decide (b = 0) || ((ruleF k).2.2.1 && (decide (0 ≤ b) && decide (b ≤ 2))))

theorem kids_cases (k:Int):(ruleF k).2.1 = 0 ∨ (ruleF k).2.1 = 1 ∨ (ruleF k).2.1 = 2:=by
 unfold ruleF;split
 ·unfold ruleT;split <;> simp
 ·simp

set_option maxRecDepth 100000 in
set_option maxHeartbeats 4000000 in
theorem axisOk_any (nb no:Nat) (k x y:Int) (w:World) (h0:w.cell? ⟨nb,no,none⟩ = some (.int .i64 k)) (h1:w.cell? ⟨nb,no + 1,none⟩ = some (.int .i64 x)) (h2:w.cell? ⟨nb,no + 2,none⟩ = some (.int .i64 y)) :
  Calls Tryz.prog 129 #[.pointer (some ⟨nb,no,none⟩)] w (fun e w' => e = .returned (.bool (axOk k x y)) ∧ Below w.heap.size w w'):=by
 have hb:nb < w.heap.size:=some_lt (a:=⟨nb,no,none⟩) (by rw [h0];rfl)
 go_enter Tryz.func129,Tryz.ntmps129
 go_wp2_with fail
 refine (rule_any k w).mono ?_
 rintro _ w2 ⟨rfl,hb2⟩
 have W3b:Below w.heap.size w (w2.alloc (.cells #[I64 (ruleF k).1,I64 (ruleF k).2.1,.bool (ruleF k).2.2.1,I64 (ruleF k).2.2.2] 217)):=hb2.alloc hb2.size _
 simp only [ruleV]
 have hn:Hid (axOk k x y = ((decide (0 < (ruleF k).2.1) || decide (x = 0)) && (decide ((ruleF k).2.1 = 2) || decide (y = 0) || ((ruleF k).2.2.1 && (decide (0 ≤ y) && decide (y ≤ 2)))))):=by unfold Hid;rfl
 have h3:w2.cell? ⟨nb,no + 1,none⟩ = some (.int .i64 x):=by rw [lift hb2 _ (by rw [h1];rfl)];exact h1
 have h4:w2.cell? ⟨nb,no + 2,none⟩ = some (.int .i64 y):=by rw [lift hb2 _ (by rw [h2];rfl)];exact h2
 have hnb2:nb < w2.heap.size:=some_lt (a:=⟨nb,no + 1,none⟩) (by rw [h3];rfl)
 have hk3:=kids_cases k
 clear h0 h1 h2 hb2
 generalize (ruleF k).2.2.1 = n2 at *
 generalize (ruleF k).2.1 = n1 at *
 by_cases hx:x = 0 <;> by_cases hy:y = 0 <;> cases n2 <;> rcases hk3 with h | h | h <;> subst h
 all_goals try subst hx
 all_goals try subst hy
 all_goals
  go_wp2_with (go_at_call 74;refine (in_any _ _ _ _).mono ?_;rintro _ w5 ⟨rfl,rfl⟩)
  go_ret
  exact ⟨by rw [hn.out];simp [*],W3b⟩
end Go.Proofs.YtbiacfkiakddiaaGreat
