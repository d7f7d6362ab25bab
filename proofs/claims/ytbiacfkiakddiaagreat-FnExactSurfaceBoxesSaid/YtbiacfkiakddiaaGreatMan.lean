/-
 Lemmas: S14,Ro,Rr,W16,W4.
-/
import Derived.Test.YtbiacfkiakddiaaGreatMam
set_option linter.unusedVariables false
set_option linter.unusedSimpArgs false
namespace Go.Proofs.YtbiacfkiakddiaaGreat
open Go.RowKit Go.Fl
abbrev V:=Nat × Nat × Nat
theorem kids_in {k:Int} (h:0 ≤ k ∧ k ≤ 16):(inI k 0 4 = decide ((ruleF k).2.1 = 0)) ∧ (inI k 5 8 = decide ((ruleF k).2.1 = 2)):=by
 have:k = 0 ∨ k = 1 ∨ k = 2 ∨ k = 3 ∨ k = 4 ∨ k = 5 ∨ k = 6 ∨ k = 7 ∨ k = 8 ∨ k = 9 ∨ k = 10 ∨ k = 11 ∨ k = 12 ∨ k = 13 ∨ k = 14 ∨ k = 15 ∨ k = 16:=by omega
 rcases this with h | h | h | h | h | h | h | h | h | h | h | h | h | h | h | h | h <;> subst h <;> decide

end Go.Proofs.YtbiacfkiakddiaaGreat

namespace Go.Proofs.YtbiacfkiakddiaaGreat
open Go.RowKit Go.Fl Go.ChangeShapes Go.WideShapes Go.Deep
section
variable {H:Type} {enc:TypeId × Value → H} {P:Program} {w:World} {base:Nat} {spare:Nat → Bool} {held:Bool}
theorem trod_flt {t:TypeId} {k:FloatKind} {fuel:Nat} {cs:List Value} {x:DataW H × List MemPlace} (ht:P.underlying t = some (.float k)) (h:DataW.trod enc P w base spare held fuel t cs = some x):∃ b,cs = [.float k b]:=by
 cases fuel with
 | zero => simp [DataW.trod] at h
 | succ n =>
  unfold DataW.trod at h
  rw [ht] at h
  split at h <;> simp_all

theorem add_off (a:Addr) (i j:Nat) (h:a.spot = none):(a.add i).add j = ⟨a.block,a.off + i + j,none⟩:=by
 obtain ⟨b,o,s⟩:=a
 simp only at h
 subst h
 rw [Go.WideShapes.add_plain,Go.WideShapes.add_plain]
end
theorem four {α:Type} {l:List α} (h:l.length = 4):∃ a b c d,l = [a,b,c,d]:=by
 match l,h with
 | [a,b,c,d],_ => exact ⟨a,b,c,d,rfl⟩

theorem list_of {Pp:Nat → PN → Prop}:∀ n,(∀ i,i < n → ∃ x,Pp i x) → ∃ ns:List PN,ns.length = n ∧ ∀ i (h:i < ns.length),Pp i ns[i]
 | 0,_ => ⟨[],rfl,fun i h => by simp at h⟩
 | n + 1,h => by
  obtain ⟨ns,h1,h2⟩:=list_of n (fun i hi => h i (by omega))
  obtain ⟨x,hx⟩:=h n (by omega)
  refine ⟨ns ++ [x],by simp [h1],fun i hi => ?_⟩
  by_cases e:i < ns.length
  ·rw [List.getElem_append_left e];exact h2 i e
  ·have:i = n:=by simp at hi;omega
   subst this
   rw [List.getElem_append_right (by omega)]
   simpa [h1] using hx

theorem nats_of {Pp:Nat → Nat → Prop}:∀ n,(∀ i,i < n → ∃ x,Pp i x) → ∃ ns:List Nat,ns.length = n ∧ ∀ i (h:i < ns.length),Pp i ns[i]
 | 0,_ => ⟨[],rfl,fun i h => by simp at h⟩
 | n + 1,h => by
  obtain ⟨ns,h1,h2⟩:=nats_of n (fun i hi => h i (by omega))
  obtain ⟨x,hx⟩:=h n (by omega)
  refine ⟨ns ++ [x],by simp [h1],fun i hi => ?_⟩
  by_cases e:i < ns.length
  ·rw [List.getElem_append_left e];exact h2 i e
  ·have:i = n:=by simp at hi;omega
   subst this
   rw [List.getElem_append_right (by omega)]
   simpa [h1] using hx

/-- A list of numbers that came in. -/
theorem open_nums {H:Type} {enc:TypeId × Value → H} {w:World} {base fuel:Nat} {spare:Nat → Bool} {held:Bool} {cs:List Value} {x:DataW H × List MemPlace} (h:DataW.trod enc Tryz.prog w base spare held fuel 140 cs = some x) :
  ∃ (xs:List Nat) (bp:Option Addr) (bv ov cap:Nat),cs = [.slice bp xs.length cap] ∧ xs.length ≤ maxLen ∧ (xs ≠ [] → bp = some ⟨bv,ov,none⟩) ∧ ∀ i (h:i < xs.length),w.cell? ⟨bv,ov + i,none⟩ = some (.float .f32 xs[i]):=by
 rcases open_slice1 Tryz.underlying140 (by kernel_rfl) h with ⟨rfl,-⟩ | ⟨a,len,cap,m,n,V,D,Pl,rfl,-,hlc,hcm,hmm,-,hcell⟩
 ·exact ⟨[],none,0,0,0,rfl,Nat.zero_le _,fun h => absurd rfl h,fun i hi => by simp at hi⟩
 ·have hm:len ≤ m:=by rw [hmm];split <;> omega
  have hx:∀ i,i < len → ∃ b,w.cell? (a.add i) = some (.float .f32 b):=fun i hi => by
   obtain ⟨h1,h2⟩:=hcell i (by omega)
   obtain ⟨b,hb⟩:=trod_flt Tryz.underlying25 h2
   injection hb with hb
   exact ⟨b,by rw [h1,hb]⟩
  obtain ⟨xs,rfl,hxs⟩:=nats_of len hx
  obtain ⟨b,off,spot⟩:=a
  refine ⟨xs,some ⟨b,off,spot⟩,b,off,cap,rfl,by omega,fun hne => ?_,fun i hi => ?_⟩
  ·have h0:0 < xs.length:=List.length_pos_iff.2 hne
   have:=World.cell?_spot (hxs 0 h0)
   have hspot:spot = none:=by simpa [Addr.add] using this
   rw [hspot]
  ·have h0:0 < xs.length:=by omega
   have:=World.cell?_spot (hxs 0 h0)
   have hspot:spot = none:=by simpa [Addr.add] using this
   subst hspot
   rw [← Go.WideShapes.add_plain]
   exact hxs i hi

theorem trod_i64 {H:Type} {enc:TypeId × Value → H} {w:World} {base fuel:Nat} {spare:Nat → Bool} {held:Bool} {cs:List Value} {x:DataW H × List MemPlace} (h:DataW.trod enc Tryz.prog w base spare held fuel 2 cs = some x):∃ n,cs = [.int .i64 n]:=by
 obtain ⟨n,h1,-⟩:=DataW.trod_int Tryz.underlying2 h
 exact ⟨n,h1⟩

set_option maxRecDepth 100000 in
/-- A list of nodes that came in. -/
theorem open_nodes {H:Type} {enc:TypeId × Value → H} {w:World} {base fuel:Nat} {spare:Nat → Bool} {held:Bool} {cs:List Value} {x:DataW H × List MemPlace} (h:DataW.trod enc Tryz.prog w base spare held fuel 22 cs = some x) :
  ∃ (ns:List PN) (bp:Option Addr) (nb no cap:Nat),cs = [.slice bp ns.length cap] ∧ NodesIn ns bp nb no w:=by
 rcases open_slice Tryz.underlying22 h with ⟨rfl,-⟩ | ⟨a,len,cap,m,n,D,Pl,rfl,-,hlc,hcm,hmm,-,hel⟩
 ·exact ⟨[],none,0,0,0,rfl,fun h => absurd rfl h,fun i hi => by simp at hi,Nat.zero_le _,fun n hn => by cases hn⟩
 ·have hm:len ≤ m:=by rw [hmm];split <;> omega
  have hC:Tryz.prog.cellsOf 175 = 4:=by kernel_rfl
  have hx:∀ i,i < len → ∃ n:PN,(a.spot = none ∧ NodeIn n a.block (a.off + i * 4) w) ∧ n.nums.length ≤ maxLen:=fun i hi => by
   obtain ⟨cs',hc,ht⟩:=hel i (by omega)
   rw [hC] at hc
   obtain ⟨-,hcl,hat⟩:=World.cells?_some hc
   obtain ⟨ys,n',-,-,-,hyl,hf⟩:=DataW.trod_struct Tryz.underlying175 ht
   obtain ⟨c0,c1,c2,c3,rfl⟩:=four hcl
   obtain ⟨y0,y1,y2,y3,rfl⟩:=four (hyl.trans rfl)
   obtain ⟨cs0,hz,-⟩:=hel 0 (by omega)
   rw [hC] at hz
   obtain ⟨-,hzl,hzat⟩:=World.cells?_some hz
   have hz0:=hzat 0 (by omega)
   have hspot:a.spot = none:=by
    obtain ⟨z0,z1,z2,z3,rfl⟩:=four hzl
    have:=World.cell?_spot (show w.cell? ((a.add (0 * 4)).add 0) = some z0 from hz0)
    simpa [Addr.add] using this
   have f0:=hf 0 _ rfl
   have f1:=hf 1 _ rfl
   have f2:=hf 2 _ rfl
   have f3:=hf 3 _ rfl
   have t0:DataW.trod enc Tryz.prog w base spare held n' 2 [c0] = some y0:=f0
   have t1:DataW.trod enc Tryz.prog w base spare held n' 2 [c1] = some y1:=f1
   have t2:DataW.trod enc Tryz.prog w base spare held n' 2 [c2] = some y2:=f2
   have t3:DataW.trod enc Tryz.prog w base spare held n' 140 [c3] = some y3:=f3
   obtain ⟨k,e0⟩:=trod_i64 t0
   obtain ⟨na,e1⟩:=trod_i64 t1
   obtain ⟨nb,e2⟩:=trod_i64 t2
   obtain ⟨xs,bp,bv,ov,cp,e3,hxl,hp,hcells⟩:=open_nums t3
   injection e0 with e0
   injection e1 with e1
   injection e2 with e2
   injection e3 with e3
   have hc0:=hat 0 (by omega)
   have hc1:=hat 1 (by omega)
   have hc2:=hat 2 (by omega)
   have hc3:=hat 3 (by omega)
   have had:∀ j,(a.add (i * 4)).add j = ⟨a.block,a.off + i * 4 + j,none⟩:=fun j => by exact add_off a (i * 4) j hspot
   rw [had] at hc0 hc1 hc2 hc3
   rw [Nat.add_zero] at hc0
   refine ⟨⟨k,na,nb,xs⟩,⟨hspot,⟨?_,?_,?_,bp,bv,ov,cp,?_,hp,hcells⟩⟩,hxl⟩
   ·rw [hc0,← e0];rfl
   ·rw [hc1,← e1];rfl
   ·rw [hc2,← e2];rfl
   ·rw [hc3,← e3];rfl
  obtain ⟨ns,rfl,hns⟩:=list_of len hx
  refine ⟨ns,some a,a.block,a.off,cap,rfl,fun hne => ?_,fun i hi => (hns i hi).1.2,by omega,fun n hn => ?_⟩
  ·have h0:0 < ns.length:=List.length_pos_iff.2 hne
   have:=(hns 0 h0).1.1
   obtain ⟨b,o,s⟩:=a
   simp only at this
   rw [this]
  ·obtain ⟨i,hi,rfl⟩:=List.getElem_of_mem hn
   exact (hns i hi).2

theorem three {α:Type} {l:List α} (h:l.length = 3):∃ a b c,l = [a,b,c]:=by
 match l,h with
 | [a,b,c],_ => exact ⟨a,b,c,rfl⟩
theorem uno {α:Type} {l:List α} (h:l.length = 1):∃ a,l = [a]:=by
 match l,h with
 | [a],_ => exact ⟨a,rfl⟩

set_option maxRecDepth 100000 in
/-- A shape that came in. -/
theorem open_shape {H:Type} {enc:TypeId × Value → H} {w:World} {base b0:Nat} {r:Reach} {spare:Nat → Bool} {held:Bool} {v:Value} {d:DataW H} {p:List MemPlace} (hv:Value.okWide Tryz.prog w r b0 24 v) (h:DataW.Trod enc Tryz.prog w base spare held 24 v d p) :
  ∃ (ns:List PN) (bp:Option Addr) (nb no cap:Nat),v = .agg #[.slice bp ns.length cap] ∧ NodesIn ns bp nb no w:=by
 obtain ⟨cs,rfl,hsz⟩:=okWide_struct Tryz.underlying24 hv
 have hC:Tryz.prog.cellsOf 24 = 1:=by kernel_rfl
 obtain ⟨l⟩:=cs
 obtain ⟨c0,rfl⟩:=uno (show l.length = 1 from hsz.trans hC)
 obtain ⟨fuel,hf⟩:=h
 obtain ⟨ys,n',-,-,-,hyl,hg⟩:=DataW.trod_struct Tryz.underlying24 hf
 obtain ⟨y0,rfl⟩:=uno (hyl.trans rfl)
 have f0:=hg 0 _ rfl
 have t0:DataW.trod enc Tryz.prog w base spare held n' 22 [c0] = some y0:=f0
 obtain ⟨ns,bp,nb,no,cap,e,hns⟩:=open_nodes t0
 injection e with e
 exact ⟨ns,bp,nb,no,cap,by rw [e],hns⟩

open Go.RowKit Go.Fl Go.ChangeShapes Go.WideShapes Go.ChangeAt
theorem own_knob:ownKnob Tryz.prog.godebug = none:=by kernel_rfl
theorem laid_out:laidOutB Tryz.prog = true:=by kernel_rfl

/-- The row's last step where nothing has turned that was there. -/
theorem post_below {H:Type} {enc:TypeId × Value → H} {P:Program} {f:Func} {s:ChangeSpec} {apart fresh handsOn again:Bool} {W W':World} {args:Array Value} {v:Value} {ds gs:List (DataW H)} {before pa pv:List MemPlace}
  (hW:DataW.Whole enc P f.params.toList s.vars apart W args.toList ds gs before)
  (hres:∀ (b:Nat) (sp:Nat → Bool) (hd:Bool),DataW.TrodAll enc P W' b sp hd f.resultTypes.toList (v.resultList f.resultTypes.size) (s.fn H (ds ++ gs)).results [])
  (hargs:∀ sp:Nat → Bool,(∀ p ∈ before,sp p.block = true) → DataW.TrodAll enc P W' 0 sp true f.params.toList args.toList (s.fn H (ds ++ gs)).args pa)
  (hvars:∀ sp:Nat → Bool,(∀ p ∈ before,sp p.block = true) → DataW.TrodVars enc P W' sp s.vars (s.fn H (ds ++ gs)).vars pv)
  (hps:before = pa ++ pv) (hb:Below W.heap.size W W')
  (hok:∀ (j:Nat) (t:TypeId) (r:Value),f.resultTypes[j]? = some t → (v.resultList f.resultTypes.size)[j]? = some r → Value.okWide P W' .any 0 t r) :
  s.post enc P f apart fresh handsOn again W args v W':=by
 have hold:∀ p ∈ before,(fun b => decide (b < W.heap.size)) p.block = true:=fun p hp => by simpa using hW.lt p hp
 refine ⟨ds,gs,before,[],pa,pv,hW,hres _ _ _,hargs _ hold,hvars _ hold,World.keptBut_mono (fun p hp => ⟨hp,?_⟩) (hb.frame (· ∈ before)),fun _ => ?_⟩
 ·rw [hps,List.mem_append] at hp
  exact .inr hp
 ·have hlt:∀ p ∈ before,p.block < W.heap.size:=fun p hp => hW.lt p hp
  obtain ⟨_,_,_,_,_,hz,hn⟩:=hW
  refine ⟨hok,_,_,([] ++ pa) ++ pv,⟨[] ++ pa,pv,trodAll_append (hargs _ (fun _ _ => rfl)) (hres _ _ _),hvars _ (fun _ _ => rfl),rfl,?_,?_⟩,?_⟩
  ·intro b off hp
   have hin:MemPlace.cell b off ∈ before:=by rw [hps];simpa using hp
   have h1:=hlt _ hin
   rw [hb.frozen h1]
   exact hz b off hin
  ·intro ha
   have:=hn ha
   rw [hps] at this
   simpa using this
  ·intro p hp _
   rw [hps]
   simpa using hp

end Go.Proofs.YtbiacfkiakddiaaGreat

namespace Go.Proofs.YtbiacfkiakddiaaGreat
open Go.RowKit Go.Fl Go.ChangeShapes Go.WideShapes Go.ChangeAt
theorem and_mk {a b:Bool} (h:a = true) (k:b = true):(a && b) = true:=by rw [h,k];rfl
theorem six {α:Type} {l:List α} (h:l.length = 6):∃ a b c d e f,l = [a,b,c,d,e,f]:=by
 match l,h with
 | [a,b,c,d,e,f],_ => exact ⟨a,b,c,d,e,f,rfl⟩
theorem duo {α:Type} {l:List α} (h:l.length = 2):∃ a b,l = [a,b]:=by
 match l,h with
 | [a,b],_ => exact ⟨a,b,rfl⟩

set_option maxRecDepth 100000 in
/-- Three cells of a vector. -/
theorem trod_vec {H:Type} {enc:TypeId × Value → H} {w:World} {base fuel:Nat} {spare:Nat → Bool} {held:Bool} {c0 c1 c2:Value} {x:DataW H × List MemPlace} (h:DataW.trod enc Tryz.prog w base spare held fuel 27 [c0,c1,c2] = some x) :
  ∃ a b c:Nat,c0 = F1 a ∧ c1 = F1 b ∧ c2 = F1 c:=by
 obtain ⟨ys,n',-,-,-,hyl,hg⟩:=DataW.trod_struct Tryz.underlying27 h
 obtain ⟨y0,y1,y2,rfl⟩:=three (hyl.trans rfl)
 have t0:DataW.trod enc Tryz.prog w base spare held n' 25 [c0] = some y0:=hg 0 _ rfl
 have t1:DataW.trod enc Tryz.prog w base spare held n' 25 [c1] = some y1:=hg 1 _ rfl
 have t2:DataW.trod enc Tryz.prog w base spare held n' 25 [c2] = some y2:=hg 2 _ rfl
 obtain ⟨x,e0⟩:=trod_flt Tryz.underlying25 t0
 obtain ⟨y,e1⟩:=trod_flt Tryz.underlying25 t1
 obtain ⟨z,e2⟩:=trod_flt Tryz.underlying25 t2
 injection e0 with e0
 injection e1 with e1
 injection e2 with e2
 exact ⟨x,y,z,e0,e1,e2⟩

set_option maxRecDepth 100000 in
/-- A box that came in. -/
theorem open_box {H:Type} {enc:TypeId × Value → H} {w:World} {base b0:Nat} {r:Reach} {spare:Nat → Bool} {held:Bool} {v:Value} {d:DataW H} {p:List MemPlace} (hv:Value.okWide Tryz.prog w r b0 29 v) (h:DataW.Trod enc Tryz.prog w base spare held 29 v d p) :
  ∃ a b c d e f:Nat,v = .agg #[F1 a,F1 b,F1 c,F1 d,F1 e,F1 f]:=by
 obtain ⟨cs,rfl,hsz⟩:=okWide_struct Tryz.underlying29 hv
 have hC:Tryz.prog.cellsOf 29 = 6:=by kernel_rfl
 obtain ⟨l⟩:=cs
 obtain ⟨c0,c1,c2,c3,c4,c5,rfl⟩:=six (show l.length = 6 from hsz.trans hC)
 obtain ⟨fuel,hf⟩:=h
 obtain ⟨ys,n',-,-,-,hyl,hg⟩:=DataW.trod_struct Tryz.underlying29 hf
 obtain ⟨y0,y1,rfl⟩:=duo (hyl.trans rfl)
 have t0:DataW.trod enc Tryz.prog w base spare held n' 27 [c0,c1,c2] = some y0:=hg 0 _ rfl
 have t1:DataW.trod enc Tryz.prog w base spare held n' 27 [c3,c4,c5] = some y1:=hg 1 _ rfl
 obtain ⟨a,b,c,e0,e1,e2⟩:=trod_vec t0
 obtain ⟨d',e',f',e3,e4,e5⟩:=trod_vec t1
 exact ⟨a,b,c,d',e',f',by rw [e0,e1,e2,e3,e4,e5]⟩
end Go.Proofs.YtbiacfkiakddiaaGreat

namespace Go.Proofs.YtbiacfkiakddiaaGreat
open Go.RowKit Go.Fl
def numOk (k:Int) (xs:List Nat):Bool:=kindOk k && decide (xs.length = (ruleF k).1) && !xs.any (fun x => !finP x) && !xs.any (signBad (ruleF k).2.2.2)
theorem sign_le (k:Int):(ruleF k).2.2.2 ≤ 2:=by
 unfold ruleF;split
 ·unfold ruleT;split <;> simp
 ·simp

set_option maxRecDepth 100000 in
set_option maxHeartbeats 1000000 in
theorem numbersOk_any (k:Int) (xs:List Nat) (bp:Option Addr) (bv ov cap:Nat) (w:World) (h1:xs ≠ [] → bp = some ⟨bv,ov,none⟩) (h2:∀ i (h:i < xs.length),w.cell? ⟨bv,ov + i,none⟩ = some (.float .f32 xs[i])) (hl:xs.length < 10000000) :
  Calls Tryz.prog 128 #[.int .i64 k,.slice bp xs.length cap] w (fun e w' => e = .returned (.bool (numOk k xs)) ∧ Below w.heap.size w w'):=by
 go_enter Tryz.func128,Tryz.ntmps128
 go_wp2_with fail
 refine (rule_any k w).mono ?_
 rintro _ w2 ⟨rfl,hb2⟩
 have hr2:(ruleF k).2.2.2 ≤ 2:=sign_le k
 have W3b:Below w.heap.size w (w2.alloc (.cells #[I64 (ruleF k).1,I64 (ruleF k).2.1,.bool (ruleF k).2.2.1,I64 (ruleF k).2.2.2] 217)):=hb2.alloc hb2.size _
 have hkept:Kept [(⟨w2.heap.size,0,none⟩,I64 (ruleF k).1),(⟨w2.heap.size,3,none⟩,I64 (ruleF k).2.2.2)] [] (w2.alloc (.cells #[I64 (ruleF k).1,I64 (ruleF k).2.1,.bool (ruleF k).2.2.1,I64 (ruleF k).2.2.2] 217)):=by
  simp only [Kept,ka,kb,kc,kd,ke,kf,kg]
  simp
 simp only [ruleV]
 have hn:numOk k xs = (kindOk k && decide (xs.length = (ruleF k).1) && !xs.any (fun x => !finP x) && !xs.any (signBad (ruleF k).2.2.2)):=rfl
 generalize kindOk k = ko at *
 generalize hrk:ruleF k = rk at *
 obtain ⟨n0,n1,n2,n3⟩:=rk
 simp only at hn hr2 W3b hkept ⊢
 have W3c:Below w.heap.size w (w2.alloc (.cells #[I64 n0,I64 n1,.bool n2,I64 n3] 217)):=W3b
 have h3:∀ i (h:i < xs.length),(w2.alloc (.cells #[I64 n0,I64 n1,.bool n2,I64 n3] 217)).cell? ⟨bv,ov + i,none⟩ = some (.float .f32 xs[i]):=fun i hi => by rw [lift W3c _ (by rw [h2 i hi];rfl)];exact h2 i hi
 clear h2
 cases ko
 ·go_wp2_with fail
  go_ret
  exact ⟨by rw [hn];rfl,W3c⟩
 by_cases hlen:xs.length = n0
 ·subst hlen
  have hfin:=finite_any xs bp bv ov cap _ h1 h3 hl
  go_wp2_with fail
  refine hfin.mono ?_
  rintro _ w4 ⟨rfl,hb4⟩
  have W4b:=below_step W3c hb4
  cases hf:xs.any (fun x => !finP x)
  ·have h4:∀ i (h:i < xs.length),w4.cell? ⟨bv,ov + i,none⟩ = some (.float .f32 xs[i]):=fun i hi => by rw [lift hb4 _ (by rw [h3 i hi];rfl)];exact h3 i hi
   have hkept4:=keep hkept hb4
   have hc:=contains_sign ⟨w2.heap.size,0,none⟩ (signBad n3) xs bp bv ov cap w4 h1 h4 hl (fun x w' hw' => signc_any n3 hr2 x w2.heap.size 0 w' (by
    have hK:=keep hkept4 hw'
    simp only [Kept,ka,kb,kc,kd,ke,kf,kg] at hK
    exact hK.2))
   clear h1 h3 h4 hkept hfin
   go_wp2_with fail
   refine hc.mono ?_
   rintro _ w5 ⟨rfl,hb5⟩
   go_wp2_with fail
   go_ret
   exact ⟨by rw [hn,hf];simp,below_step W4b hb5⟩
  ·clear h1 h3
   go_wp2_with fail
   go_ret
   exact ⟨by rw [hn,hf];simp,W4b⟩
 ·have hlen':(xs.length:Int) ≠ (n0:Int):=by omega
  clear h1 h3
  go_wp2_with fail
  go_ret
  exact ⟨by rw [hn];simp [hlen],W3c⟩

def axOk (k a b:Int):Bool:=(decide (0 < (ruleF k).2.1) || decide (a = 0)) && (decide ((ruleF k).2.1 = 2) || decide (b = 0) || ((ruleF k).2.2.1 && (decide (0 ≤ b) && decide (b ≤ 2))))

theorem kids_cases (k:Int):(ruleF k).2.1 = 0 ∨ (ruleF k).2.1 = 1 ∨ (ruleF k).2.1 = 2:=by
 unfold ruleF;split
 ·unfold ruleT;split <;> simp
 ·simp

set_option maxRecDepth 100000 in
set_option maxHeartbeats 4000000 in
theorem axisOk_any (nb no:Nat) (k x y:Int) (w:World) (h0:w.cell? ⟨nb,no,none⟩ = some (.int .i64 k)) (h1:w.cell? ⟨nb,no + 1,none⟩ = some (.int .i64 x)) (h2:w.cell? ⟨nb,no + 2,none⟩ = some (.int .i64 y)) :
  Calls Tryz.prog 129 #[.pointer (some ⟨nb,no,none⟩)] w (fun e w' => e = .returned (.bool (axOk k x y)) ∧ Below w.heap.size w w'):=by
 have hb:nb < w.heap.size:=some_lt (a:=⟨nb,no,none⟩) (by rw [h0];rfl)
 go_enter Tryz.func129,Tryz.ntmps129
 go_wp2_with fail
 refine (rule_any k w).mono ?_
 rintro _ w2 ⟨rfl,hb2⟩
 have W3b:Below w.heap.size w (w2.alloc (.cells #[I64 (ruleF k).1,I64 (ruleF k).2.1,.bool (ruleF k).2.2.1,I64 (ruleF k).2.2.2] 217)):=hb2.alloc hb2.size _
 simp only [ruleV]
 have hn:Hid (axOk k x y = ((decide (0 < (ruleF k).2.1) || decide (x = 0)) && (decide ((ruleF k).2.1 = 2) || decide (y = 0) || ((ruleF k).2.2.1 && (decide (0 ≤ y) && decide (y ≤ 2)))))):=by unfold Hid;rfl
 have h3:w2.cell? ⟨nb,no + 1,none⟩ = some (.int .i64 x):=by rw [lift hb2 _ (by rw [h1];rfl)];exact h1
 have h4:w2.cell? ⟨nb,no + 2,none⟩ = some (.int .i64 y):=by rw [lift hb2 _ (by rw [h2];rfl)];exact h2
 have hnb2:nb < w2.heap.size:=some_lt (a:=⟨nb,no + 1,none⟩) (by rw [h3];rfl)
 have hk3:=kids_cases k
 clear h0 h1 h2 hb2
 generalize (ruleF k).2.2.1 = n2 at *
 generalize (ruleF k).2.1 = n1 at *
 by_cases hx:x = 0 <;> by_cases hy:y = 0 <;> cases n2 <;> rcases hk3 with h | h | h <;> subst h
 all_goals try subst hx
 all_goals try subst hy
 all_goals
  go_wp2_with (go_at_call 74;refine (in_any _ _ _ _).mono ?_;rintro _ w5 ⟨rfl,rfl⟩)
  go_ret
  exact ⟨by rw [hn.out];simp [*],W3b⟩
end Go.Proofs.YtbiacfkiakddiaaGreat

namespace Go.Proofs.YtbiacfkiakddiaaGreat
open Go.RowKit Go.Fl
theorem run_bits {P:Program} (w:World) (x:Nat):∃ v n,(Extern.MathFloatBits.float64bits #[.float .f64 x]).run P w = .ok v (w.drewN n) ∧ v = .int .u64 x:=⟨_,0,rfl,rfl⟩
theorem run_frombits {P:Program} (w:World) (n:Int):∃ v m,(Extern.MathFloatBits.float64frombits #[.int .u64 n]).run P w = .ok v (w.drewN m) ∧ v = .float .f64 n.toNat:=⟨_,0,rfl,rfl⟩

set_option maxHeartbeats 400000 in
theorem abs_any (a:Nat) (w:World):Calls Tryz.prog 259 #[.float .f64 a] w (fun e w' => e = .returned (.float .f64 (absW a)) ∧ Below w.heap.size w w'):=by
 go_enter Tryz.func259,Tryz.ntmps259
 go_wp2_with (first
  | (refine wp_entry rfl 272 _ _ rfl rfl _ ext_bits _ (run_bits _ _) ?_;rintro _ n rfl)
  | (refine wp_entry rfl 202 _ _ rfl rfl _ ext_frombits _ (run_frombits _ _) ?_;rintro _ n rfl))
 go_ret
 exact ⟨rfl,(by repeat' (first | exact Below.refl _ _ | exact Nat.le_refl _ | refine below_drewN ?_ _ | refine Below.alloc ?_ (by simp <;> omega) _ | refine Below.setCell ?_ (by simp <;> omega) _ | refine below_step ?_ (by assumption)))⟩

set_option maxHeartbeats 400000 in
theorem nan_any (w:World):Calls Tryz.prog 258 #[] w (Ret .f64 (nanw .f64) w):=by
 go_enter Tryz.func258,Tryz.ntmps258
 go_wp2_with (first
  | (refine wp_entry rfl 202 _ _ rfl rfl _ ext_frombits _ (run_frombits _ _) ?_;rintro _ n rfl))
 go_ret
 exact ⟨_,rfl,by decide +kernel,(by repeat' (first | exact Below.refl _ _ | exact Nat.le_refl _ | refine below_drewN ?_ _ | refine Below.alloc ?_ (by simp <;> omega) _ | refine Below.setCell ?_ (by simp <;> omega) _ | refine below_step ?_ (by assumption)))⟩

set_option maxHeartbeats 400000 in
theorem trunc_any (a:Nat) (w:World):Calls Tryz.prog 260 #[.float .f64 a] w (Ret .f64 (whole .zero (cn .f64 a)) w):=by
 go_enter Tryz.func260,Tryz.ntmps260
 go_wp2_with (refine wp_entry rfl 273 _ _ rfl rfl _ ext_trunc _ (run_whole _ _ _ _) ?_;rintro _ n ⟨r1,rfl,hr1⟩)
 go_ret
 exact ⟨_,rfl,hr1,(by repeat' (first | exact Below.refl _ _ | exact Nat.le_refl _ | refine below_drewN ?_ _ | refine Below.alloc ?_ (by simp <;> omega) _ | refine Below.setCell ?_ (by simp <;> omega) _ | refine below_step ?_ (by assumption)))⟩

set_option maxHeartbeats 1000000 in
theorem sine_nan (a:Nat) (w:World) (hf:eqk .f32 (B .sub (cn .f32 a) (cn .f32 a)) 0 = false) :
  Calls Tryz.prog 211 #[.float .f32 a] w (Ret .f32 (sineF (cn .f32 a)) w):=by
 go_enter Tryz.func211,Tryz.ntmps211
 go_wp2_with (first
  | (refine wp_nar rfl _ _ _ rfl _ rfl ?_ ?_ ?_ ?_;exact some_f64;exact Tryz.underlying25;(simp only [*];exact fits_nan);intro r2 n hr2)
  | first
  | (go_at_call 150;refine (fin_any _ _).mono ?_;rintro _ w1 ⟨rfl,hb1⟩)
  | (go_at_call 258;refine (nan_any _).mono ?_;rintro _ w1 ⟨r1,rfl,hr1,hb1⟩)
  | (go_at_call 259;refine (abs_any _ _).mono ?_;rintro _ w1 ⟨rfl,hb1⟩)
  | (go_at_call 260;refine (trunc_any _ _).mono ?_;rintro _ w1 ⟨r1,rfl,hr1,hb1⟩)
  | (refine wp_wid rfl _ _ _ rfl _ rfl ?_ ?_ fitsW_all ?_;exact some_f32;exact Tryz.underlying89;intro r n hr)
  | (refine wp_bin rfl _ _ _ _ _ rfl _ _ _ rfl rfl rfl ?_;intro r n hr))
 go_ret
 exact ⟨_,rfl,by rw [hr2];simp only [sineF,hf,hr1,nar_nan];rfl,(by repeat' (first | exact Below.refl _ _ | exact Nat.le_refl _ | refine below_drewN ?_ _ | refine Below.alloc ?_ (by simp <;> omega) _ | refine Below.setCell ?_ (by simp <;> omega) _ | refine below_step ?_ (by assumption)))⟩

theorem wrap_fac (m:Nat) (h:m < 8):wrap64 (2 * (8 - (m:Int)) * (2 * (8 - (m:Int)) + 1)) = 2 * (8 - (m:Int)) * (2 * (8 - (m:Int)) + 1):=by
 have h:m = 0 ∨ m = 1 ∨ m = 2 ∨ m = 3 ∨ m = 4 ∨ m = 5 ∨ m = 6 ∨ m = 7:=by omega
 rcases h with rfl | rfl | rfl | rfl | rfl | rfl | rfl | rfl <;> (unfold wrap64;decide)

/-- A wide number that is none. -/
theorem raw_wid {r a:Nat} (hf:eqk .f32 (B .sub (cn .f32 a) (cn .f32 a)) 0 = true) (hr:cn .f64 r = wid (cn .f32 a)):cn .f64 r = r :=
 cn_of_not (by rw [← isNaN_cn,hr];exact fin_not hf)

set_option maxRecDepth 100000 in
set_option maxHeartbeats 2000000 in
theorem sine_fin (a:Nat) (w:World) (hf:eqk .f32 (B .sub (cn .f32 a) (cn .f32 a)) 0 = true) :
  Calls Tryz.prog 211 #[.float .f32 a] w (Ret .f32 (sineF (cn .f32 a)) w):=by
 go_enter Tryz.func211,Tryz.ntmps211
 go_upto_if 26 with (first
  | (go_at_call 150;refine (fin_any _ _).mono ?_;rintro _ w1 ⟨rfl,hb1⟩)
  | (go_at_call 258;refine (nan_any _).mono ?_;rintro _ w1 ⟨r1,rfl,hr1,hb1⟩)
  | (go_at_call 259;refine (abs_any _ _).mono ?_;rintro _ w1 ⟨rfl,hb1⟩)
  | (go_at_call 260;refine (trunc_any _ _).mono ?_;rintro _ w1 ⟨r1,rfl,hr1,hb1⟩)
  | (refine wp_wid rfl _ _ _ rfl _ rfl ?_ ?_ fitsW_all ?_;exact some_f32;exact Tryz.underlying89;intro r n hr)
  | (refine wp_bin rfl _ _ _ _ _ rfl _ _ _ rfl rfl rfl ?_;intro r n hr))
 ·go_ret
  have hg:gek .f64 (absW (wid (cn .f32 a))) 4841369599423283200 = true:=by
   rw [← hr,raw_wid hf hr]
   unfold gek
   rw [Bool.or_eq_true]
   assumption
  exact ⟨_,rfl,by rw [cn_zero];simp only [sineF,hf,hg,if_true],(by repeat' (first | exact Below.refl _ _ | exact Nat.le_refl _ | refine below_drewN ?_ _ | refine Below.alloc ?_ (by simp <;> omega) _ | refine Below.setCell ?_ (by simp <;> omega) _ | refine below_step ?_ (by assumption)))⟩
 ·have hg:gek .f64 (absW (wid (cn .f32 a))) 4841369599423283200 = false:=by
   rw [← hr,raw_wid hf hr]
   unfold gek
   rw [Bool.or_eq_false_iff]
   assumption
  have hG:Hid (gek .f64 (absW (wid (cn .f32 a))) 4841369599423283200 = false):=hg
  clear hg
  go_cut [3] (fun s3 wx => (∃ q,s3 = .float .f64 q ∧ cn .f64 q = sin1 (wid (cn .f32 a))) ∧ Below w.heap.size w wx)
  case first =>
   go_wp2_with (refine wp_bin rfl _ _ _ _ _ rfl _ _ _ rfl rfl rfl ?_;intro r n hr)
   ·go_meet
    case rel =>
     have he:=eqk_ne ‹(FloatKind.f64.format.order _ 0 != some .eq) = true›
     simp only [*] at he
     exact ⟨⟨_,rfl,by simp only [sin1,he,Bool.not_true,Bool.not_false,Bool.false_eq_true,if_true,if_false, *]⟩,(by repeat' (first | exact Below.refl _ _ | exact Nat.le_refl _ | refine below_drewN ?_ _ | refine Below.alloc ?_ (by simp <;> omega) _ | refine Below.setCell ?_ (by simp <;> omega) _ | refine below_step ?_ (by assumption)))⟩
   ·go_meet
    case rel =>
     have he:=eqk_ne ‹(FloatKind.f64.format.order _ 0 != some .eq) = false›
     simp only [*] at he
     exact ⟨⟨_,rfl,by simp only [sin1,he,Bool.not_true,Bool.not_false,Bool.false_eq_true,if_true,if_false, *]⟩,(by repeat' (first | exact Below.refl _ _ | exact Nat.le_refl _ | refine below_drewN ?_ _ | refine Below.alloc ?_ (by simp <;> omega) _ | refine Below.setCell ?_ (by simp <;> omega) _ | refine below_step ?_ (by assumption)))⟩
  case rest =>
   clear hb1
   obtain ⟨⟨q1,rfl,hq1⟩,hw1⟩:=hcut
   rename World => wc1
   go_upto_if 31 with fail
   go_cut [3] (fun s3 wx => (∃ q,s3 = .float .f64 q ∧ cn .f64 q = sin2 (wid (cn .f32 a))) ∧ Below w.heap.size w wx)
   case first =>
    go_wp2_with (refine wp_bin rfl _ _ _ _ _ rfl _ _ _ rfl rfl rfl ?_;intro r n hr)
    ·go_meet
     case rel =>
      have he:=ltk_of' ‹(FloatKind.f64.format.order _ 0 == some .lt) = true›
      simp only [*] at he
      exact ⟨⟨_,rfl,by simp only [sin2,he,cn_c1,Bool.not_true,Bool.not_false,Bool.false_eq_true,if_true,if_false, *]⟩,(by repeat' (first | exact Below.refl _ _ | exact Nat.le_refl _ | refine below_drewN ?_ _ | refine Below.alloc ?_ (by simp <;> omega) _ | refine Below.setCell ?_ (by simp <;> omega) _ | refine below_step ?_ (by assumption)))⟩
    ·go_meet
     case rel =>
      have he:=ltk_of' ‹(FloatKind.f64.format.order _ 0 == some .lt) = false›
      simp only [*] at he
      exact ⟨⟨_,rfl,by simp only [sin2,he,Bool.not_true,Bool.not_false,Bool.false_eq_true,if_true,if_false, *]⟩,(by repeat' (first | exact Below.refl _ _ | exact Nat.le_refl _ | refine below_drewN ?_ _ | refine Below.alloc ?_ (by simp <;> omega) _ | refine Below.setCell ?_ (by simp <;> omega) _ | refine below_step ?_ (by assumption)))⟩
   case rest =>
    clear hw1
    obtain ⟨⟨q2,rfl,hq2⟩,hw2⟩:=hcut
    have hT:(FloatKind.f64.format.order q2 4602678819172646912 == some .gt || FloatKind.f64.format.order q2 4602678819172646912 == some .eq) = sinT (wid (cn .f32 a)):=by
     unfold sinT;rw [← hq2,gek_c cn_c2]
    have HT:Hid ((FloatKind.f64.format.order q2 4602678819172646912 == some .gt || FloatKind.f64.format.order q2 4602678819172646912 == some .eq) = sinT (wid (cn .f32 a))):=hT
    clear hT
    go_upto_if 36 with fail
    rw [HT.out]
    go_cut [3,5] (fun s3 s5 wx => (∃ q,s3 = .float .f64 q ∧ cn .f64 q = sin3 (wid (cn .f32 a))) ∧ s5 = .bool (sinT (wid (cn .f32 a))) ∧ Below w.heap.size w wx)
    case first =>
     cases hT:sinT (wid (cn .f32 a))
     all_goals
      have HT2:=Lib.hid hT
      clear hT
      go_wp2_with (refine wp_bin rfl _ _ _ _ _ rfl _ _ _ rfl rfl rfl ?_;intro r n hr)
      go_meet
      case rel => exact ⟨⟨_,rfl,by simp only [sin3,HT2.out,cn_c2,Bool.not_true,Bool.not_false,Bool.false_eq_true,if_true,if_false, *]⟩,by rw [HT2.out],(by repeat' (first | exact Below.refl _ _ | exact Nat.le_refl _ | refine below_drewN ?_ _ | refine Below.alloc ?_ (by simp <;> omega) _ | refine Below.setCell ?_ (by simp <;> omega) _ | refine below_step ?_ (by assumption)))⟩
    case rest =>
     clear hw2
     obtain ⟨⟨q3,rfl,hq3⟩,rfl,hw3⟩:=hcut
     go_upto_if 40 with fail
     go_cut [3] (fun s3 wx => (∃ q,s3 = .float .f64 q ∧ cn .f64 q = sin4 (wid (cn .f32 a))) ∧ Below w.heap.size w wx)
     case first =>
      go_wp2_with (refine wp_bin rfl _ _ _ _ _ rfl _ _ _ rfl rfl rfl ?_;intro r n hr)
      ·go_meet
       case rel =>
        have he:=gtk_c cn_c3 ‹(FloatKind.f64.format.order _ 4598175219545276416 == some .gt) = true›
        simp only [*] at he
        exact ⟨⟨_,rfl,by simp only [sin4,he,cn_c2,Bool.not_true,Bool.not_false,Bool.false_eq_true,if_true,if_false, *]⟩,(by repeat' (first | exact Below.refl _ _ | exact Nat.le_refl _ | refine below_drewN ?_ _ | refine Below.alloc ?_ (by simp <;> omega) _ | refine Below.setCell ?_ (by simp <;> omega) _ | refine below_step ?_ (by assumption)))⟩
      ·go_meet
       case rel =>
        have he:=gtk_c cn_c3 ‹(FloatKind.f64.format.order _ 4598175219545276416 == some .gt) = false›
        simp only [*] at he
        exact ⟨⟨_,rfl,by simp only [sin4,he,Bool.not_true,Bool.not_false,Bool.false_eq_true,if_true,if_false, *]⟩,(by repeat' (first | exact Below.refl _ _ | exact Nat.le_refl _ | refine below_drewN ?_ _ | refine Below.alloc ?_ (by simp <;> omega) _ | refine Below.setCell ?_ (by simp <;> omega) _ | refine below_step ?_ (by assumption)))⟩
     case rest =>
      clear hw3
      obtain ⟨⟨q4,rfl,hq4⟩,hw4⟩:=hcut
      go_wp2_with (refine wp_bin rfl _ _ _ _ _ rfl _ _ _ rfl rfl rfl ?_;intro r n hr)
      go_loopw [8,9] (fun p k wr => ∃ n:Nat,∃ pw,n ≤ 8 ∧ k = .int .i64 (8 - (n:Int)) ∧ p = .float .f64 pw ∧ cn .f64 pw = polyF (D .mul (sinZ (wid (cn .f32 a))) (sinZ (wid (cn .f32 a)))) n ∧ Below w.heap.size w wr) (fun _ k _ => (intOf k).toNat)
      case atStart => exact ⟨0,_,by omega,rfl,rfl,by rw [cn_c1];rfl,(by repeat' (first | exact Below.refl _ _ | exact Nat.le_refl _ | refine below_drewN ?_ _ | refine Below.alloc ?_ (by simp <;> omega) _ | refine Below.setCell ?_ (by simp <;> omega) _ | refine below_step ?_ (by assumption)))⟩
      case round =>
       obtain ⟨m,pw,hm,rfl,rfl,hp,hwr⟩:=hrel
       by_cases hlt:m < 8
       ·go_wp2_with (refine wp_bin rfl _ _ _ _ _ rfl _ _ _ rfl rfl rfl ?_;intro r n hr)
        refine ⟨⟨m + 1,_,by omega,by congr 1;omega,rfl,?_,by exact below_drewN hwr _⟩,by simp [intOf];omega⟩
        have hw6:=wrap_fac m hlt
        simp only [polyF,facN,sinZ,cn_c1,cn_c4,cn_ofInt,D,hw6, *]
       ·obtain rfl:m = 8:=by omega
        rw [show ((8:Int) - ((8:Nat):Int)) = 0 from rfl]
        go_upto_if 67 with (refine wp_bin rfl _ _ _ _ _ rfl _ _ _ rfl rfl rfl ?_;intro r n hr)
        cases hT:sinT (wid (cn .f32 a))
        ·have HT2:Hid (sinT (wid (cn .f32 a)) = false):=hT
         clear hT
         go_wp2_with (refine wp_nar rfl _ _ _ rfl _ rfl ?_ ?_ ?_ ?_;exact some_f64;exact Tryz.underlying25;(refine (congrArg fits ?_).mpr (fits_sin _ hf);simp only [sinW,HT2.out,sinO,sinZ,cn_c4,D,Bool.false_eq_true,if_false, *]);intro r2 n2 hr2)
         go_ret
         exact ⟨_,rfl,by rw [hr2];simp only [sineF,hf,hG.out,sinW,HT2.out,sinO,sinZ,cn_c4,D,Bool.false_eq_true,if_false,if_true, *],(by repeat' (first | exact Below.refl _ _ | exact Nat.le_refl _ | refine below_drewN ?_ _ | refine Below.alloc ?_ (by simp <;> omega) _ | refine Below.setCell ?_ (by simp <;> omega) _ | refine below_step ?_ (by assumption)))⟩
        ·have HT2:Hid (sinT (wid (cn .f32 a)) = true):=hT
         clear hT
         go_wp2_with (refine wp_nar rfl _ _ _ rfl _ rfl ?_ ?_ ?_ ?_;exact some_f64;exact Tryz.underlying25;(refine (congrArg fits ?_).mpr (fits_sin _ hf);simp only [sinW,HT2.out,sinO,sinZ,cn_c4,D,Bool.false_eq_true,if_false,if_true,← negc_cn, *]);intro r2 n2 hr2)
         go_ret
         exact ⟨_,rfl,by rw [hr2];simp only [sineF,hf,hG.out,sinW,HT2.out,sinO,sinZ,cn_c4,D,Bool.false_eq_true,if_false,if_true,← negc_cn, *],(by repeat' (first | exact Below.refl _ _ | exact Nat.le_refl _ | refine below_drewN ?_ _ | refine Below.alloc ?_ (by simp <;> omega) _ | refine Below.setCell ?_ (by simp <;> omega) _ | refine below_step ?_ (by assumption)))⟩

theorem sine_any (a:Nat) (w:World):Calls Tryz.prog 211 #[.float .f32 a] w (Ret .f32 (sineF (cn .f32 a)) w):=by
 cases hf:eqk .f32 (B .sub (cn .f32 a) (cn .f32 a)) 0
 ·exact sine_nan a w hf
 ·exact sine_fin a w hf
end Go.Proofs.YtbiacfkiakddiaaGreat
