/-
 Lemmas: U10,C5,V31,B11.
-/
import Derived.Test.YtbiacfkiakddiaaGreatMcd
set_option linter.unusedVariables false
set_option linter.unusedSimpArgs false
namespace Go.Proofs.YtbiacfkiakddiaaGreat
open Go.RowKit Go.Fl
/-- The words of a statement's slots: a shape that is new;a result in memory. -/
def GdW (ns:List PN) (sl:List Tmp) (rs:Tmp) (Res:Value → World → Prop) (d:Tmp) (v:Value) (w:World):Prop :=
 (d ∈ sl → ∀ G,v = .agg #[.slice (some ⟨G,0,none⟩) ns.length ns.length] → ∀ i (h:i < ns.length),NodeNew ns[i] G (0 + i * 4) w) ∧ (d = rs → v = undef ∨ Res v w)
theorem gdw_lasts (ns:List PN) (sl:List Tmp) (rs:Tmp) {Res:Value → World → Prop} (hR:∀ v w w',Res v w → Below w.heap.size w w' → Res v w'):Qg.Lasts (GdW ns sl rs Res) :=
 ⟨fun d v w w' h hb => ⟨fun hd G hv i hi => (h.1 hd G hv i hi).keep hb,fun hd => (h.2 hd).imp id fun h => hR _ _ _ h hb⟩,fun d w => ⟨fun _ G hv => (by cases hv),fun _ => .inl rfl⟩⟩
theorem gdw_start {ns:List PN} {sl:List Tmp} {rs:Tmp} {Res:Value → World → Prop} {a:Act} {w:World} (h:∀ d ∈ sl ++ [rs],a.tmps.getD d undef = undef):Qg.E (GdW ns sl rs Res) [] a w :=
 ⟨fun d => ⟨fun hd G hv => (by rw [h d (by simp [hd])] at hv;cases hv),fun hd => .inl (by rw [h d (by simp [hd])])⟩,fun d hd => (by cases hd),fun d hd => (by cases hd)⟩
theorem gdw_no {ns:List PN} {sl:List Tmp} {rs:Tmp} {Res:Value → World → Prop} {d:Tmp} {v:Value} {w:World} (h1:d ∉ sl) (h2:d ≠ rs):Qg.gd (GdW ns sl rs Res) (some d) v w :=
 ⟨fun h => absurd h h1,fun h => absurd h h2⟩
theorem gdw_shape {ns:List PN} {sl:List Tmp} {rs:Tmp} {Res:Value → World → Prop} {d:Tmp} {G:Nat} {w:World} (h:∀ i (h:i < ns.length),NodeNew ns[i] G (0 + i * 4) w) (h2:d ≠ rs):Qg.gd (GdW ns sl rs Res) (some d) (.agg #[.slice (some ⟨G,0,none⟩) ns.length ns.length]) w :=
 ⟨fun _ G' hv => by injection hv with hv;injection hv with hv;injection hv with hv;injection hv with hv;injection hv with hv;injection hv with hv;subst hv;exact h,fun h => absurd h h2⟩
theorem gdw_res {ns:List PN} {sl:List Tmp} {rs:Tmp} {Res:Value → World → Prop} {v:Value} {w:World} (h1:rs ∉ sl) (h:Res v w):Qg.gd (GdW ns sl rs Res) (some rs) v w :=
 ⟨fun h => absurd h h1,fun _ => .inr h⟩

/-- A result that is told with a truth value. -/
def Rs2 (bv:Bool) (P:Value → World → Prop) (v:Value) (w:World):Prop:=∀ u,v = .tuple #[u,.bool bv] → P u w
theorem Rs2.mk {bv:Bool} {P:Value → World → Prop} {u:Value} {w:World} (h:P u w):Rs2 bv P (.tuple #[u,.bool bv]) w:=fun u' hu => by
 injection hu with hu;injection hu with hu;injection hu with hu _;rw [← hu];exact h
theorem Rs2.keep {bv:Bool} {P:Value → World → Prop} (hP:∀ v w w',P v w → Below w.heap.size w w' → P v w') (v:Value) (w w':World) (h:Rs2 bv P v w) (hb:Below w.heap.size w w'):Rs2 bv P v w':=fun u hu => hP _ _ _ (h u hu) hb

inductive PhiW (n:Nat) (bv:Bool) (fs fi:FuncId):FuncId → Array Value → Value → Prop
 | shape (args:Array Value) (G:Nat):PhiW n bv fs fi 15 args (.agg #[.slice (some ⟨G,0,none⟩) n n])
 | box (a b c d e f:Nat):PhiW n bv fs fi 16 #[BoxV a b c d e f] (BoxV a b c d e f)
 | spec (args:Array Value) (u:Value):PhiW n bv fs fi fs args (.tuple #[u,.bool bv])
 | impl (args:Array Value) (u:Value):PhiW n bv fs fi fi args (.tuple #[u,.bool bv])
 | eqs (args:Array Value):PhiW n bv fs fi 19 args (.bool true)

/-- A shape that can be marked. -/
def ShW (n G hi:Nat) (w:World):Prop:=G < w.heap.size ∧ (∀ i,i < n → NodeM G (i * 4) hi w) ∧ ∀ o,w.frozen? ⟨G,o,none⟩ = false
theorem NodeM.keep {G o hi:Nat} {w w':World} (h:NodeM G o hi w) (hb:Below w.heap.size w w') (hh:hi ≤ w.heap.size):NodeM G o hi w':=by
 have l:=fun a (h:∃ v,w.cell? a = some v) => (show ∃ v,w'.cell? a = some v by obtain ⟨v,hv⟩:=h;exact ⟨v,by rw [lift hb a (by rw [hv];rfl)];exact hv⟩)
 obtain ⟨h1,h2,h3,g,n,h4,h5,h6,h7,h8,h9⟩:=h
 exact ⟨l _ h1,l _ h2,l _ h3,g,n,h4,h5,h6,by rw [lift hb _ (by rw [h7];rfl)];exact h7,fun i hi => l _ (h8 i hi),fun j => by rw [froz_keep (by omega) hb];exact h9 j⟩
theorem ShW.keep {n G hi:Nat} {w w':World} (h:ShW n G hi w) (hb:Below w.heap.size w w') (hh:hi ≤ w.heap.size):ShW n G hi w' :=
 ⟨Nat.lt_of_lt_of_le h.1 hb.size,fun i hi => (h.2.1 i hi).keep hb hh,fun o => by rw [froz_keep h.1 hb];exact h.2.2 o⟩
theorem shw_new {ns:List PN} (hn:∀ n ∈ ns,(n.nums.length:Int) ≤ 1048576) {G:Nat} {w:World} (h:∀ i (h:i < ns.length),NodeNew ns[i] G (0 + i * 4) w ∧ NumFree G (0 + i * 4) w) (hG:G < w.heap.size) (hf:∀ o,w.frozen? ⟨G,o,none⟩ = false):ShW ns.length G w.heap.size w :=
 ⟨hG,fun i hi => by
  obtain ⟨hN,hF⟩:=h i hi
  rw [Nat.zero_add] at hN hF
  obtain ⟨g,hg,hs,hc⟩:=hN.nums
  obtain ⟨g',n',m',hg',hs',hlt,hz⟩:=hF
  rw [hs] at hs'
  injection hs' with hs';injection hs' with e1 e2 e3;injection e1 with e1;injection e1 with e1
  subst e1
  exact ⟨⟨_,hN.kind⟩,⟨_,hN.a⟩,⟨_,hN.b⟩,g,_,hg,hlt,by have:=hn _ (List.getElem_mem hi);omega,hs,fun j hj => ⟨_,by have:=hc j hj;rw [Nat.zero_add] at this;exact this⟩,hz⟩,hf⟩

/-- Of the blocks that were there,only those from lo on,before hi,may have been written. -/
structure Mrk (lo hi:Nat) (w w':World):Prop where
 low:Below lo w w'
 high:∀ b,hi ≤ b → b < w.heap.size → w'.heap[b]? = w.heap[b]?

set_option maxRecDepth 100000 in
set_option maxHeartbeats 2000000 in
theorem mark_shapeB (n:Nat) (hn:n ≤ 1048576) (G hi:Nat) (k:Int) (hk:0 ≤ k ∧ k ≤ 10) (w:World) (h:ShW n G hi w) (hG:G < w.heap.size) (hh:hi ≤ w.heap.size) :
  Calls Tryz.prog 20 #[.agg #[.slice (some ⟨G,0,none⟩) n n],.int .i64 k] w (fun e w' => ∃ k',e = .returned (.int .i64 k') ∧ 0 ≤ k' ∧ Mrk G hi w w' ∧ k' ≤ 2000000000000):=by
 have Wb:Below w.heap.size w (w.alloc (.cells #[.slice (some ⟨G,0,none⟩) n n] 36)):=(Below.refl _ _).alloc (Nat.le_refl _) _
 have h1:=h.keep Wb hh
 have hc:=mark_nodesB n hn G hi k hk (w.alloc (.cells #[.slice (some ⟨G,0,none⟩) n n] 36)) h1.2.1 h1.2.2
 clear h1 h
 go_enter Tryz.func20,Tryz.ntmps20
 go_wp2_with (go_at_call 70;refine hc.mono ?_;rintro _ w2 ⟨k',rfl,hk',hm,hk2⟩;replace hm:=Lib.hid hm)
 go_ret
 exact ⟨k',rfl,hk',⟨((Below.refl _ _).alloc (Nat.le_of_lt hG) _).trans hm.out.low,fun b hb hlt => (hm.out.high b hb).trans (Wb.block b hlt)⟩,hk2⟩
theorem mark_shape (n:Nat) (hn:n ≤ 1048576) (G hi:Nat) (k:Int) (hk:0 ≤ k ∧ k ≤ 10) (w:World) (h:ShW n G hi w) (hG:G < w.heap.size) (hh:hi ≤ w.heap.size) :
  Calls Tryz.prog 20 #[.agg #[.slice (some ⟨G,0,none⟩) n n],.int .i64 k] w (fun e w' => ∃ k',e = .returned (.int .i64 k') ∧ 0 ≤ k' ∧ Mrk G hi w w') :=
 (mark_shapeB n hn G hi k hk w h hG hh).mono fun e w' ⟨k',h1,h2,h3,_⟩ => ⟨k',h1,h2,h3⟩
end Go.Proofs.YtbiacfkiakddiaaGreat

namespace Go.Proofs.YtbiacfkiakddiaaGreat
open Go.RowKit Go.Fl
theorem row_mrk {w w':World} {lo G hi:Nat} {e:TypeId} {size n:Nat} {v:Value} {xs:List Value} (h:w.ownsRow lo e size v n xs) (hm:Mrk G hi w w') (hl:hi ≤ lo):w'.ownsRow lo e size v n xs:=by
 obtain ⟨h1,h2 | ⟨g,cap,cur,hv,hb,hg,r⟩⟩:=h
 ·exact ⟨h1,.inl h2⟩
 ·exact ⟨h1,.inr ⟨g,cap,cur,hv,hb,by rw [hm.high g (Nat.le_trans hl hb) (Array.getElem?_eq_some_iff.1 hg).1];exact hg,r⟩⟩
end Go.Proofs.YtbiacfkiakddiaaGreat

namespace Go.Proofs.YtbiacfkiakddiaaGreat
open Go.RowKit Go.Fl
set_option maxRecDepth 100000 in
set_option maxHeartbeats 1000000 in
theorem to_box (a b c d e f:Nat) (w:World) :
  Calls Tryz.prog 16 #[BoxV a b c d e f] w (fun e' w' => e' = .returned (BoxV a b c d e f) ∧ Below w.heap.size w w'):=by
 go_enter Tryz.func16,Tryz.ntmps16
 go_upto_region 2 with fail
 generalize hW:((w.alloc (.cells #[F1 a,F1 b,F1 c,F1 d,F1 e,F1 f] 29)).alloc (.cells #[F1 0,F1 0,F1 0,F1 0,F1 0,F1 0] 40)).alloc (.cells #[F1 0,F1 0,F1 0,F1 0,F1 0,F1 0] 40) = W1 at *
 have W1b:Below w.heap.size w W1:=by subst hW;exact (by repeat' (first | exact Below.refl _ _ | exact Nat.le_refl _ | refine below_drewN ?_ _ | refine Below.alloc ?_ (by simp <;> omega) _ | refine Below.setCell ?_ (by simp <;> omega) _ | refine below_step ?_ (by assumption)))
 have hkept:Kept [(⟨w.heap.size,0,none⟩,F1 a),(⟨w.heap.size,1,none⟩,F1 b),(⟨w.heap.size,2,none⟩,F1 c),(⟨w.heap.size,3,none⟩,F1 d),(⟨w.heap.size,4,none⟩,F1 e),(⟨w.heap.size,5,none⟩,F1 f),(⟨w.heap.size + 1,0,none⟩,F1 0),(⟨w.heap.size + 1,1,none⟩,F1 0),(⟨w.heap.size + 1,2,none⟩,F1 0),(⟨w.heap.size + 1,3,none⟩,F1 0),(⟨w.heap.size + 1,4,none⟩,F1 0),(⟨w.heap.size + 1,5,none⟩,F1 0),(⟨w.heap.size + 1 + 1,0,none⟩,F1 0),(⟨w.heap.size + 1 + 1,1,none⟩,F1 0),(⟨w.heap.size + 1 + 1,2,none⟩,F1 0),(⟨w.heap.size + 1 + 1,3,none⟩,F1 0),(⟨w.heap.size + 1 + 1,4,none⟩,F1 0),(⟨w.heap.size + 1 + 1,5,none⟩,F1 0)] [⟨w.heap.size + 1,0,none⟩,⟨w.heap.size + 1,1,none⟩,⟨w.heap.size + 1,2,none⟩,⟨w.heap.size + 1,3,none⟩,⟨w.heap.size + 1,4,none⟩,⟨w.heap.size + 1,5,none⟩,⟨w.heap.size + 1 + 1,0,none⟩,⟨w.heap.size + 1 + 1,1,none⟩,⟨w.heap.size + 1 + 1,2,none⟩,⟨w.heap.size + 1 + 1,3,none⟩,⟨w.heap.size + 1 + 1,4,none⟩,⟨w.heap.size + 1 + 1,5,none⟩] W1:=by
  subst hW;simp only [Kept,ka,kb,kc,kd,ke,kf,kg];(first | (go_simp;done) | (simp [World.cell?,World.frozen?,World.alloc,Array.getElem?_push];done))
 clear hW
 have hK:=hkept;simp only [Kept,ka,kb,kc,kd,ke,kf,kg] at hK
 go_upto_region 3 with (go_at_call 64;refine (to_vector _ _ _ _).mono ?_;rintro _ w2 ⟨rfl,hb1⟩;have W2b:=below_step W1b hb1;have hkept:=keepT hkept hb1 rfl;clear hK;have hK:=hkept;simp only [Kept,ka,kb,kc,kd,ke,kf,kg] at hK)
 have W3b:Below w.heap.size w (((w2.setCell ⟨w.heap.size + 1 + 1,0,none⟩ (F1 a)).setCell ⟨w.heap.size + 1 + 1,1,none⟩ (F1 b)).setCell ⟨w.heap.size + 1 + 1,2,none⟩ (F1 c)):=((W2b.setCell (p:=⟨w.heap.size + 1 + 1,0,none⟩) (by show w.heap.size ≤ w.heap.size + 1 + 1;omega) _).setCell (p:=⟨w.heap.size + 1 + 1,1,none⟩) (by show w.heap.size ≤ w.heap.size + 1 + 1;omega) _).setCell (p:=⟨w.heap.size + 1 + 1,2,none⟩) (by show w.heap.size ≤ w.heap.size + 1 + 1;omega) _
 have hkept:Kept [(⟨w.heap.size,0,none⟩,F1 a),(⟨w.heap.size,1,none⟩,F1 b),(⟨w.heap.size,2,none⟩,F1 c),(⟨w.heap.size,3,none⟩,F1 d),(⟨w.heap.size,4,none⟩,F1 e),(⟨w.heap.size,5,none⟩,F1 f),(⟨w.heap.size + 1,0,none⟩,F1 0),(⟨w.heap.size + 1,1,none⟩,F1 0),(⟨w.heap.size + 1,2,none⟩,F1 0),(⟨w.heap.size + 1,3,none⟩,F1 0),(⟨w.heap.size + 1,4,none⟩,F1 0),(⟨w.heap.size + 1,5,none⟩,F1 0),(⟨w.heap.size + 1 + 1,0,none⟩,F1 a),(⟨w.heap.size + 1 + 1,1,none⟩,F1 b),(⟨w.heap.size + 1 + 1,2,none⟩,F1 c),(⟨w.heap.size + 1 + 1,3,none⟩,F1 0),(⟨w.heap.size + 1 + 1,4,none⟩,F1 0),(⟨w.heap.size + 1 + 1,5,none⟩,F1 0)] [⟨w.heap.size + 1,0,none⟩,⟨w.heap.size + 1,1,none⟩,⟨w.heap.size + 1,2,none⟩,⟨w.heap.size + 1,3,none⟩,⟨w.heap.size + 1,4,none⟩,⟨w.heap.size + 1,5,none⟩,⟨w.heap.size + 1 + 1,0,none⟩,⟨w.heap.size + 1 + 1,1,none⟩,⟨w.heap.size + 1 + 1,2,none⟩,⟨w.heap.size + 1 + 1,3,none⟩,⟨w.heap.size + 1 + 1,4,none⟩,⟨w.heap.size + 1 + 1,5,none⟩] (((w2.setCell ⟨w.heap.size + 1 + 1,0,none⟩ (F1 a)).setCell ⟨w.heap.size + 1 + 1,1,none⟩ (F1 b)).setCell ⟨w.heap.size + 1 + 1,2,none⟩ (F1 c)):=by
  simp only [Kept,ka,kb,kc,kd,ke,kf,kg];simp [hK,World.cell?_setCell_other,World.cell?_setCell_same',World.frozen?_setCell]
 generalize ((w2.setCell ⟨w.heap.size + 1 + 1,0,none⟩ (F1 a)).setCell ⟨w.heap.size + 1 + 1,1,none⟩ (F1 b)).setCell ⟨w.heap.size + 1 + 1,2,none⟩ (F1 c) = w3 at *
 clear hK hb1 W2b W1b
 have hK:=hkept;simp only [Kept,ka,kb,kc,kd,ke,kf,kg] at hK
 go_upto_region 4 with (go_at_call 64;refine (to_vector _ _ _ _).mono ?_;rintro _ w4 ⟨rfl,hb1⟩;have W4b:=below_step W3b hb1;have hkept:=keepT hkept hb1 rfl;clear hK;have hK:=hkept;simp only [Kept,ka,kb,kc,kd,ke,kf,kg] at hK)
 have W5b:Below w.heap.size w (((w4.setCell ⟨w.heap.size + 1 + 1,3,none⟩ (F1 d)).setCell ⟨w.heap.size + 1 + 1,4,none⟩ (F1 e)).setCell ⟨w.heap.size + 1 + 1,5,none⟩ (F1 f)):=((W4b.setCell (p:=⟨w.heap.size + 1 + 1,3,none⟩) (by show w.heap.size ≤ w.heap.size + 1 + 1;omega) _).setCell (p:=⟨w.heap.size + 1 + 1,4,none⟩) (by show w.heap.size ≤ w.heap.size + 1 + 1;omega) _).setCell (p:=⟨w.heap.size + 1 + 1,5,none⟩) (by show w.heap.size ≤ w.heap.size + 1 + 1;omega) _
 have hkept:Kept [(⟨w.heap.size + 1,0,none⟩,F1 0),(⟨w.heap.size + 1,1,none⟩,F1 0),(⟨w.heap.size + 1,2,none⟩,F1 0),(⟨w.heap.size + 1,3,none⟩,F1 0),(⟨w.heap.size + 1,4,none⟩,F1 0),(⟨w.heap.size + 1,5,none⟩,F1 0),(⟨w.heap.size + 1 + 1,0,none⟩,F1 a),(⟨w.heap.size + 1 + 1,1,none⟩,F1 b),(⟨w.heap.size + 1 + 1,2,none⟩,F1 c),(⟨w.heap.size + 1 + 1,3,none⟩,F1 d),(⟨w.heap.size + 1 + 1,4,none⟩,F1 e),(⟨w.heap.size + 1 + 1,5,none⟩,F1 f)] [⟨w.heap.size + 1,0,none⟩,⟨w.heap.size + 1,1,none⟩,⟨w.heap.size + 1,2,none⟩,⟨w.heap.size + 1,3,none⟩,⟨w.heap.size + 1,4,none⟩,⟨w.heap.size + 1,5,none⟩] (((w4.setCell ⟨w.heap.size + 1 + 1,3,none⟩ (F1 d)).setCell ⟨w.heap.size + 1 + 1,4,none⟩ (F1 e)).setCell ⟨w.heap.size + 1 + 1,5,none⟩ (F1 f)):=by
  simp only [Kept,ka,kb,kc,kd,ke,kf,kg];simp [hK,World.cell?_setCell_other,World.cell?_setCell_same',World.frozen?_setCell]
 generalize ((w4.setCell ⟨w.heap.size + 1 + 1,3,none⟩ (F1 d)).setCell ⟨w.heap.size + 1 + 1,4,none⟩ (F1 e)).setCell ⟨w.heap.size + 1 + 1,5,none⟩ (F1 f) = w5 at *
 clear hK hb1 W4b W3b
 have hK:=hkept;simp only [Kept,ka,kb,kc,kd,ke,kf,kg] at hK
 go_wp2_with fail
 exact bodyPost_ret (v:=BoxV a b c d e f) (by simp [results,Tryz.results16,go_sem,hK,World.cell?_setCell_other,World.cell?_setCell_same']) rfl ⟨rfl,bel6 W5b (by omega) ..⟩

end Go.Proofs.YtbiacfkiakddiaaGreat

namespace Go.Proofs.YtbiacfkiakddiaaGreat
open Go.RowKit Go.Fl
set_option maxRecDepth 100000 in
set_option maxHeartbeats 16000000 in
theorem walk_surfaceboxes (ns:List PN) (bp:Option Addr) (nb no cap:Nat) (a b c d e f:Nat) (s:Int) (w:World) (hns:NodesIn ns bp nb no w) (bv:Bool) (sz:Int) (hpos:0 ≤ sz) (hsm:(ns.length:Int) ≤ 1048576) (hnsm:∀ n ∈ ns,(n.nums.length:Int) ≤ 1048576)
  (hsz:∀ w',Below w.heap.size w w' → Calls Tryz.prog 13 #[.agg #[.slice bp ns.length cap],.int .i64 1048576] w' (fun e w'' => e = .returned (.int .i64 sz) ∧ Below w'.heap.size w' w''))
  (Rd:Value → World → Prop) (Ow Mk:Nat → Value → World → Prop) (Q:Int) (hQ:0 ≤ Q)
  (hrd:∀ v w w',Rd v w → Below w.heap.size w w' → Rd v w') (how:∀ lo v w w',Ow lo v w → Below w.heap.size w w' → Ow lo v w') (hmk:∀ lo v w w',Mk lo v w → Below w.heap.size w w' → Mk lo v w')
  (hor:∀ lo v w,Ow lo v w → Rd v w) (hol:∀ lo lo' v w,Ow lo v w → lo' ≤ lo → Ow lo' v w) (hom:∀ lo G hi v w w',Ow lo v w → Mrk G hi w w' → hi ≤ lo → Ow lo v w')
  (hspec:∀ G (w':World),(∀ i (h:i < ns.length),NodeNew ns[i] G (0 + i * 4) w') → Calls Tryz.prog 23 #[.agg #[.slice (some ⟨G,0,none⟩) ns.length ns.length],BoxV a b c d e f,.int .i64 s] w' (fun e w'' => ∃ u,e = .returned (.tuple #[u,.bool bv]) ∧ Rd u w'' ∧ Below w'.heap.size w' w''))
  (himpl:∀ G (w':World),(∀ i (h:i < ns.length),NodeNew ns[i] G (0 + i * 4) w') → Calls Tryz.prog 24 #[.agg #[.slice (some ⟨G,0,none⟩) ns.length ns.length],BoxV a b c d e f,.int .i64 s] w' (fun e w'' => ∃ u,e = .returned (.tuple #[u,.bool bv]) ∧ Ow w'.heap.size u w'' ∧ Below w'.heap.size w' w''))
  (heq:∀ u v w',Rd u w' → Rd v w' → Calls Tryz.prog 25 #[u,v] w' (fun e w'' => e = .returned (.bool true) ∧ Below w'.heap.size w' w''))
  (hmark:∀ lo u w',Ow lo u w' → lo ≤ w'.heap.size → Calls Tryz.prog 26 #[u,.int .i64 1] w' (fun e w'' => e = .returned (.int .i64 Q) ∧ Mk lo u w'' ∧ Below lo w' w''))
  (hheld:∀ lo u w',Mk lo u w' → Calls Tryz.prog 27 #[u,.int .i64 1] w' (fun e w'' => e = .returned (.int .i64 Q) ∧ Below w'.heap.size w' w'')) :
  Calls Tryz.prog 4 #[.agg #[.slice bp ns.length cap],BoxV a b c d e f,.int .i64 s] w (fun e' w' => e' = .returned (.bool true) ∧ Below w.heap.size w w'):=by
 have hto:∀ w',Below w.heap.size w w' → Calls Tryz.prog 15 #[.agg #[.slice bp ns.length cap]] w' (RetSh ns w'):=fun w' hb => to_shape ns hsm hnsm bp nb no cap w' (hns.keep hb)
 have htw:∀ w',Below w.heap.size w w' → Calls Tryz.prog 15 #[.agg #[.slice bp ns.length cap]] w' (RetShW ns w'):=fun w' hb => to_shapeW ns hsm hnsm bp nb no cap w' (hns.keep hb)
 have heqs:∀ G H (w':World),(∀ i (h:i < ns.length),NodeNew ns[i] G (0 + i * 4) w') → (∀ i (h:i < ns.length),NodeNew ns[i] H (0 + i * 4) w') → Calls Tryz.prog 19 #[.agg #[.slice (some ⟨G,0,none⟩) ns.length ns.length],.agg #[.slice (some ⟨H,0,none⟩) ns.length ns.length]] w' (fun e w'' => e = .returned (.bool true) ∧ Below w'.heap.size w' w'') :=
  fun G H w' h1 h2 => eq_shape ns hsm hnsm G H _ _ w' h1 h2
 have hsN:ns.length ≤ 1048576:=by omega
 have hnsM:=Lib.hid hnsm
 have hres:∀ X,Qg.Lasts (GdW ns [25,85] X (Rs2 bv Rd)):=fun X => gdw_lasts _ _ _ (Rs2.keep hrd)
 clear hnsm hns hsm
 go_enter Tryz.func4,Tryz.ntmps4
 go_wp2_with fail
 generalize hW:(w.alloc (.cells #[.slice bp ns.length cap] 24)).alloc (.cells #[F1 a,F1 b,F1 c,F1 d,F1 e,F1 f] 29) = W1 at *
 have W1b:Below w.heap.size w W1:=by subst hW;exact (by repeat' (first | exact Below.refl _ _ | exact Nat.le_refl _ | refine below_drewN ?_ _ | refine Below.alloc ?_ (by simp <;> omega) _ | refine Below.setCell ?_ (by simp <;> omega) _ | refine below_step ?_ (by assumption)))
 have hkept:Kept [(⟨w.heap.size,0,none⟩,.slice bp ns.length cap),(⟨w.heap.size + 1,0,none⟩,F1 a),(⟨w.heap.size + 1,1,none⟩,F1 b),(⟨w.heap.size + 1,2,none⟩,F1 c),(⟨w.heap.size + 1,3,none⟩,F1 d),(⟨w.heap.size + 1,4,none⟩,F1 e),(⟨w.heap.size + 1,5,none⟩,F1 f)] [] W1:=by
  subst hW;simp only [Kept,ka,kb,kc,kd,ke,kf,kg];(first | (go_simp;done) | (simp [World.cell?,World.frozen?,World.alloc,Array.getElem?_push];done))
 clear hW
 refine (hsz _ W1b).mono ?_
 rintro _ w2 ⟨rfl,hb2⟩
 have W2b:=below_step W1b hb2
 have hkept:=keep hkept hb2
 clear hb2 W1b hsz
 go_upto_region 5 with fail
 refine Qg.wp_gd_all (by kernel_rfl) (by kernel_rfl) (PhiW ns.length bv 23 24) (GdW ns [25] 29 (Rs2 bv Rd)) [] (gdw_lasts _ _ _ (Rs2.keep hrd)) (gdw_start (by intro d hd;simp at hd;rcases hd with rfl | rfl <;> rfl)) ?_
 intro hC0
 repeat (first
   | (refine Qg.walk_step fun K hK => ?_;apply Qg.one_det hC0 (by intro d hd;cases hd;decide) rfl;(focus (intro w' hw';have HK:=keep hkept hw';simp only [Kept,ka,kb,kc,kd,ke,kf,kg] at HK;go_simp;first | done | rfl));(focus (intro w' hw' hs;exact gdw_no (by decide) (by decide)));go_simp;refine hK _ ?_;clear hK K)
   | (refine Qg.walk_step fun K hK => ?_;apply Qg.one_call _ _ hC0 (by intro d hd;cases hd;decide) rfl;(focus (intro w' hw';go_simp;first | done | exact ⟨rfl,rfl⟩));(focus (apply Exists.intro;(constructor <;> first | exact (0:Nat) | exact undef)));(focus (intro w' hw' hs; go_at_call 15;(refine (hto _ (below_step W2b hw')).mono ?_);rintro _ wA ⟨G,rfl,hnew,hG,hb1⟩;exact ⟨_,rfl,PhiW.shape _ _,gdw_shape hnew (by decide),below_step hw' hb1,hb1⟩ ));intro v hv;cases hv;go_simp;refine hK _ ?_;clear hK K)
   | (refine Qg.walk_step fun K hK => ?_;apply Qg.one_call _ _ hC0 (by intro d hd;cases hd;decide) rfl;(focus (intro w' hw';go_simp;first | done | exact ⟨rfl,rfl⟩));(focus (apply Exists.intro;(constructor <;> first | exact (0:Nat) | exact undef)));(focus (intro w' hw' hs; go_at_call 16;refine (to_box _ _ _ _ _ _ _).mono ?_;rintro _ wA ⟨rfl,hb1⟩;exact ⟨_,rfl,PhiW.box _ _ _ _ _ _,gdw_no (by decide) (by decide),below_step hw' hb1,hb1⟩ ));intro v hv;cases hv;go_simp;refine hK _ ?_;clear hK K)
   | (refine Qg.walk_step fun K hK => ?_;apply Qg.one_call _ _ hC0 (by intro d hd;cases hd;decide) rfl;(focus (intro w' hw';go_simp;first | done | exact ⟨rfl,rfl⟩));(focus (apply Exists.intro;(constructor <;> first | exact (0:Nat) | exact undef)));(focus (intro w' hw' hs; go_at_call 23;refine (hspec _ _ ((hs 25 (of_decide_eq_true (by kernel_rfl))).1 (by decide) _ rfl)).mono ?_;rintro _ wA ⟨u,rfl,hq,hb1⟩;exact ⟨_,rfl,PhiW.spec _ _,gdw_res (by decide) (Rs2.mk hq),below_step hw' hb1,hb1⟩ ));intro v hv;cases hv;go_simp;refine hK _ ?_;clear hK K))
 rename_i G u6
 refine Qg.walk_nil fun w6 hw6 hE => ?_
 have hR6:Rd u6 w6:=by
  rcases (hE.1 29).2 rfl with h | h
  ·cases h
  ·exact h _ rfl
 clear hE hC0
 have hkept:=keep hkept hw6
 have hkept6:=Lib.hid hkept
 have W7b:=below_step W2b hw6
 have h06:=W7b.size
 clear W2b hw6
 have hK:=hkept;simp only [Kept,ka,kb,kc,kd,ke,kf,kg] at hK
 go_upto_region 7 with (go_at_call 15;refine (htw _ W7b).mono ?_;rintro _ wA ⟨H,rfl,hnewF,hH,hb1,hHs,hfr⟩)
 have hsw:ShW ns.length H wA.heap.size wA:=shw_new hnsM.out hnewF hHs hfr
 have hb7:Below wA.heap.size wA (wA.alloc (.cells #[.slice (some ⟨H,0,none⟩) ns.length ns.length] 36)):=(Below.refl _ _).alloc (Nat.le_refl _) _
 have hnew:∀ i (h:i < ns.length),NodeNew ns[i] H (0 + i * 4) (wA.alloc (.cells #[.slice (some ⟨H,0,none⟩) ns.length ns.length] 36)):=fun i h => (hnewF i h).1.keep hb7
 have hsw8:=hsw.keep hb7 (Nat.le_refl _)
 have hA8:=hb7.size
 have W6c:=below_step hb1 hb7
 have W8b:=below_step W7b W6c
 have hkept:=kept_app (keep (keep hkept hb1) hb7) (show Kept [(⟨wA.heap.size,0,none⟩,.slice (some ⟨H,0,none⟩) ns.length ns.length)] [] (wA.alloc (.cells #[.slice (some ⟨H,0,none⟩) ns.length ns.length] 36)) by simp only [Kept,ka,kb,kc,kd,ke,kf,kg];simp)
 clear hK hb1 hb7 W7b hsw hnewF hfr
 generalize wA.alloc (.cells #[.slice (some ⟨H,0,none⟩) ns.length ns.length] 36) = w8 at *
 generalize wA.heap.size = hi at *
 clear hHs
 refine Qg.wp_gd_all (by kernel_rfl) (by kernel_rfl) (PhiW ns.length bv 23 24) (GdW ns [] 39 (Rs2 bv (Ow w8.heap.size))) [] (gdw_lasts _ _ _ (Rs2.keep (how _))) (gdw_start (by intro d hd;simp at hd;rcases hd with rfl;rfl)) ?_
 intro hC0
 repeat (first
   | (refine Qg.walk_step fun K hK => ?_;apply Qg.one_det hC0 (by intro d hd;cases hd;decide) rfl;(focus (intro w' hw';have HK:=keep hkept hw';simp only [Kept,ka,kb,kc,kd,ke,kf,kg] at HK;go_simp;first | done | rfl));(focus (intro w' hw' hs;exact gdw_no (by decide) (by decide)));go_simp;refine hK _ ?_;clear hK K)
   | (refine Qg.walk_step fun K hK => ?_;apply Qg.one_call _ _ hC0 (by intro d hd;cases hd;decide) rfl;(focus (intro w' hw';go_simp;first | done | exact ⟨rfl,rfl⟩));(focus (apply Exists.intro;(constructor <;> first | exact (0:Nat) | exact undef)));(focus (intro w' hw' hs; go_at_call 16;refine (to_box _ _ _ _ _ _ _).mono ?_;rintro _ wA ⟨rfl,hb1⟩;exact ⟨_,rfl,PhiW.box _ _ _ _ _ _,gdw_no (by decide) (by decide),below_step hw' hb1,hb1⟩ ));intro v hv;cases hv;go_simp;refine hK _ ?_;clear hK K)
   | (refine Qg.walk_step fun K hK => ?_;apply Qg.one_call _ _ hC0 (by intro d hd;cases hd;decide) rfl;(focus (intro w' hw';go_simp;first | done | exact ⟨rfl,rfl⟩));(focus (apply Exists.intro;(constructor <;> first | exact (0:Nat) | exact undef)));(focus (intro w' hw' hs; go_at_call 24;refine (himpl _ _ (fun i h => (hnew i h).keep hw')).mono ?_;rintro _ wA ⟨u,rfl,hq,hb1⟩;exact ⟨_,rfl,PhiW.impl _ _,gdw_res (by decide) (Rs2.mk (hol _ _ _ _ hq hw'.size)),below_step hw' hb1,hb1⟩ ));intro v hv;cases hv;go_simp;refine hK _ ?_;clear hK K))
 rename_i u9
 refine Qg.walk_nil fun w9 hw9 hE => ?_
 have hO9:Ow w8.heap.size u9 w9:=by
  rcases (hE.1 39).2 rfl with h | h
  ·cases h
  ·exact h _ rfl
 clear hE hC0
 have hkept:=keep hkept hw9
 have W10b:=below_step W8b hw9
 have W6c:=below_step W6c hw9
 have hsw9:=hsw8.keep hw9 hA8
 have hnew10:∀ i (h:i < ns.length),NodeNew ns[i] H (0 + i * 4) w9:=fun i h => (hnew i h).keep hw9
 have h89:=hw9.size
 have h68:w6.heap.size ≤ w8.heap.size:=Nat.le_trans hH (Nat.le_trans (by have:=hsw8.1;omega) (Nat.le_refl _))
 clear hw9 hnew hsw8 W8b
 have hK:=hkept;simp only [Kept,ka,kb,kc,kd,ke,kf,kg] at hK
 have hRR:(bv != bv) = false:=by simp
 have hQQ:(Q != Q) = false:=by simp
 go_upto_region 10 with (go_at_call 25;refine (heq _ _ _ (hor _ _ _ hO9) (hrd _ _ _ hR6 W6c)).mono ?_;rintro _ w10 ⟨rfl,hb1⟩;have W10b:=below_step W10b hb1;have W6c:=below_step W6c hb1;have hnew10:=fun i h => NodeNew.keep (hnew10 i h) hb1;have hsw10:=hsw9.keep hb1 (by omega);have hO10:=how _ _ _ _ hO9 hb1;have h810:=Nat.le_trans h89 hb1.size;have hkept:=keepT hkept hb1 rfl;clear hK;have hK:=hkept;simp only [Kept,ka,kb,kc,kd,ke,kf,kg] at hK)
 clear hK hb1 hO9 hsw9
 refine Qg.wp_gd_all (by kernel_rfl) (by kernel_rfl) (PhiW ns.length bv 23 24) (GdW ns [53] 100000 (fun _ _ => True)) [] (gdw_lasts _ _ _ (fun _ _ _ h _ => h)) (gdw_start (by intro d hd;simp at hd;rcases hd with rfl | rfl <;> rfl)) ?_
 intro hC0
 repeat (first
   | (refine Qg.walk_step fun K hK => ?_;apply Qg.one_det hC0 (by intro d hd;cases hd;decide) rfl;(focus (intro w' hw';have HK:=keep hkept hw';simp only [Kept,ka,kb,kc,kd,ke,kf,kg] at HK;go_simp;first | done | rfl));(focus (intro w' hw' hs;exact gdw_no (by decide) (by decide)));go_simp;refine hK _ ?_;clear hK K)
   | (refine Qg.walk_step fun K hK => ?_;apply Qg.one_call _ _ hC0 (by intro d hd;cases hd;decide) rfl;(focus (intro w' hw';go_simp;first | done | exact ⟨rfl,rfl⟩));(focus (apply Exists.intro;(constructor <;> first | exact (0:Nat) | exact undef)));(focus (intro w' hw' hs; go_at_call 15;(refine (hto _ (below_step W10b hw')).mono ?_);rintro _ wA ⟨G,rfl,hnew,hG,hb1⟩;exact ⟨_,rfl,PhiW.shape _ _,gdw_shape hnew (by decide),below_step hw' hb1,hb1⟩ ));intro v hv;cases hv;go_simp;refine hK _ ?_;clear hK K)
   | (refine Qg.walk_step fun K hK => ?_;apply Qg.one_call _ _ hC0 (by intro d hd;cases hd;decide) rfl;(focus (intro w' hw';go_simp;first | done | exact ⟨rfl,rfl⟩));(focus (apply Exists.intro;(constructor <;> first | exact (0:Nat) | exact undef)));(focus (intro w' hw' hs; go_at_call 19;refine (heqs _ _ _ (fun i h => (hnew10 i h).keep hw') ((hs 53 (of_decide_eq_true (by kernel_rfl))).1 (by decide) _ rfl)).mono ?_;rintro _ wA ⟨rfl,hb1⟩;exact ⟨_,rfl,PhiW.eqs _,gdw_no (by decide) (by decide),below_step hw' hb1,hb1⟩ ));intro v hv;cases hv;go_simp;refine hK _ ?_;clear hK K))
 refine Qg.walk_nil fun w11 hw11 hE => ?_
 clear hE hC0
 have hkept:=keep hkept hw11
 have W11b:=below_step W10b hw11
 have W6c:=below_step W6c hw11
 have hsw11:=hsw10.keep hw11 (by omega)
 have hO11:=how _ _ _ _ hO10 hw11
 have h811:=Nat.le_trans h810 hw11.size
 clear hw11 hsw10 hO10 hnew10 W10b
 have hK:=hkept;simp only [Kept,ka,kb,kc,kd,ke,kf,kg] at hK
 have hms:=mark_shape ns.length hsN H hi 1 ⟨by decide,by decide⟩ w11 hsw11 hsw11.1 (by omega)
 go_upto_region 14 with (go_at_call 20;refine hms.mono ?_;rintro _ w13 ⟨k',rfl,hk',hm⟩;have hO13:=hom _ _ _ _ _ _ hO11 hm hA8;have W13b:=W11b.trans (hm.low.mono (Nat.le_trans h06 hH));have W6c:=W6c.trans (hm.low.mono hH);have h813:=Nat.le_trans h811 hm.low.size;have hkept:=keep hkept6.out W6c;clear hK;have hK:=hkept;simp only [Kept,ka,kb,kc,kd,ke,kf,kg] at hK)
 clear hms hsw11 hO11 W11b hm
 go_upto_region 16 with (go_at_call 25;refine (heq _ _ _ (hor _ _ _ hO13) (hrd _ _ _ hR6 W6c)).mono ?_;rintro _ w14 ⟨rfl,hb1⟩;have W14b:=below_step W13b hb1;have W6c:=below_step W6c hb1;have hO14:=how _ _ _ _ hO13 hb1;have h814:=Nat.le_trans h813 hb1.size;have hkept:=keepT hkept hb1 rfl;clear hK;have hK:=hkept;simp only [Kept,ka,kb,kc,kd,ke,kf,kg] at hK)
 clear hO13 W13b hb1
 go_upto_region 19 with (go_at_call 26;refine (hmark _ _ _ hO14 h814).mono ?_;rintro _ w17 ⟨rfl,hM17,hb17⟩;have W17b:=W14b.trans (hb17.mono (Nat.le_trans h06 h68));have W6c:=W6c.trans (hb17.mono h68);have hkept:=keep hkept6.out W6c;clear hK;have hK:=hkept;simp only [Kept,ka,kb,kc,kd,ke,kf,kg] at hK)
 clear hO14 W14b hb17
 go_upto_region 24 with (go_at_call 27;refine (hheld _ _ _ hM17).mono ?_;rintro _ w19 ⟨rfl,hb1⟩;have W19b:=below_step W17b hb1;have W6c:=below_step W6c hb1;have hM19:=hmk _ _ _ _ hM17 hb1;have hkept:=keepT hkept hb1 rfl;clear hK;have hK:=hkept;simp only [Kept,ka,kb,kc,kd,ke,kf,kg] at hK)
 clear hM17 W17b hb1 hK
 refine Qg.wp_gd_all (by kernel_rfl) (by kernel_rfl) (PhiW ns.length bv 23 24) (GdW ns [85] 89 (Rs2 bv (Ow w19.heap.size))) [] (gdw_lasts _ _ _ (Rs2.keep (how _))) (gdw_start (by intro d hd;simp at hd;rcases hd with rfl | rfl <;> rfl)) ?_
 intro hC0
 repeat (first
   | (refine Qg.walk_step fun K hK => ?_;apply Qg.one_det hC0 (by intro d hd;cases hd;decide) rfl;(focus (intro w' hw';have HK:=keep hkept hw';simp only [Kept,ka,kb,kc,kd,ke,kf,kg] at HK;go_simp;first | done | rfl));(focus (intro w' hw' hs;exact gdw_no (by decide) (by decide)));go_simp;refine hK _ ?_;clear hK K)
   | (refine Qg.walk_step fun K hK => ?_;apply Qg.one_call _ _ hC0 (by intro d hd;cases hd;decide) rfl;(focus (intro w' hw';go_simp;first | done | exact ⟨rfl,rfl⟩));(focus (apply Exists.intro;(constructor <;> first | exact (0:Nat) | exact undef)));(focus (intro w' hw' hs; go_at_call 15;(refine (hto _ (below_step W19b hw')).mono ?_);rintro _ wA ⟨G,rfl,hnew,hG,hb1⟩;exact ⟨_,rfl,PhiW.shape _ _,gdw_shape hnew (by decide),below_step hw' hb1,hb1⟩ ));intro v hv;cases hv;go_simp;refine hK _ ?_;clear hK K)
   | (refine Qg.walk_step fun K hK => ?_;apply Qg.one_call _ _ hC0 (by intro d hd;cases hd;decide) rfl;(focus (intro w' hw';go_simp;first | done | exact ⟨rfl,rfl⟩));(focus (apply Exists.intro;(constructor <;> first | exact (0:Nat) | exact undef)));(focus (intro w' hw' hs; go_at_call 16;refine (to_box _ _ _ _ _ _ _).mono ?_;rintro _ wA ⟨rfl,hb1⟩;exact ⟨_,rfl,PhiW.box _ _ _ _ _ _,gdw_no (by decide) (by decide),below_step hw' hb1,hb1⟩ ));intro v hv;cases hv;go_simp;refine hK _ ?_;clear hK K)
   | (refine Qg.walk_step fun K hK => ?_;apply Qg.one_call _ _ hC0 (by intro d hd;cases hd;decide) rfl;(focus (intro w' hw';go_simp;first | done | exact ⟨rfl,rfl⟩));(focus (apply Exists.intro;(constructor <;> first | exact (0:Nat) | exact undef)));(focus (intro w' hw' hs; go_at_call 24;refine (himpl _ _ ((hs 85 (of_decide_eq_true (by kernel_rfl))).1 (by decide) _ rfl)).mono ?_;rintro _ wA ⟨u,rfl,hq,hb1⟩;exact ⟨_,rfl,PhiW.impl _ _,gdw_res (by decide) (Rs2.mk (hol _ _ _ _ hq hw'.size)),below_step hw' hb1,hb1⟩ ));intro v hv;cases hv;go_simp;refine hK _ ?_;clear hK K))
 rename_i G2 u24
 refine Qg.walk_nil fun w24 hw24 hE => ?_
 have hO24:Ow w19.heap.size u24 w24:=by
  rcases (hE.1 89).2 rfl with h | h
  ·cases h
  ·exact h _ rfl
 clear hE hC0
 have hkept:=keep hkept hw24
 have W24b:=below_step W19b hw24
 have W6c:=below_step W6c hw24
 have hM24:=hmk _ _ _ _ hM19 hw24
 clear hw24 hM19 W19b
 have hK:=hkept;simp only [Kept,ka,kb,kc,kd,ke,kf,kg] at hK
 go_upto_region 27 with (go_at_call 25;refine (heq _ _ _ (hor _ _ _ hO24) (hrd _ _ _ hR6 W6c)).mono ?_;rintro _ w25 ⟨rfl,hb1⟩;have W25b:=below_step W24b hb1;have hM25:=hmk _ _ _ _ hM24 hb1;have hkept:=keepT hkept hb1 rfl;clear hK;have hK:=hkept;simp only [Kept,ka,kb,kc,kd,ke,kf,kg] at hK)
 clear hO24 hM24 W24b
 go_wp2_with (go_at_call 27;refine (hheld _ _ _ hM25).mono ?_;rintro _ w28 ⟨rfl,hb1⟩;have W28b:=below_step W25b hb1)
 go_ret
 exact ⟨rfl,W28b⟩
end Go.Proofs.YtbiacfkiakddiaaGreat
