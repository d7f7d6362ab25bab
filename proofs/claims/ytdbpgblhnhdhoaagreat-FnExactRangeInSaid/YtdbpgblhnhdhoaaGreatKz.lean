/-
  Lemmas: V36,V37,R9.
-/
import Derived.Test.YtdbpgblhnhdhoaaGreatKce
import Derived.Test.YtdbpgblhnhdhoaaGreatKcg
set_option linter.unusedVariables false
set_option linter.unusedSimpArgs false
namespace Go.Proofs.YtdbpgblhnhdhoaaGreat
open Go.RowKit Go.Fl
set_option maxRecDepth 100000 in
set_option maxHeartbeats 4000000 in
theorem s_rroot_any (ns:List PN) (hok:OkAll ns) (hl:1 ≤ ns.length ∧ ns.length ≤ 16) (sb so nb no cap bb bo a b c d e f:Nat) (w:World) (hsh:ShapeIn ns sb so nb no cap w) (hbx:Kept [(⟨bb,bo,none⟩,F1 a),(⟨bb,bo + 1,none⟩,F1 b),(⟨bb,bo + 2,none⟩,F1 c),(⟨bb,bo + 3,none⟩,F1 d),(⟨bb,bo + 4,none⟩,F1 e),(⟨bb,bo + 5,none⟩,F1 f)] [] w) :
    Calls Tryz.prog 90 #[.pointer (some ⟨sb,so,none⟩),.pointer (some ⟨bb,bo,none⟩)] w (RetR (topR (rangesS ns ((cn .f32 a,cn .f32 d),(cn .f32 b,cn .f32 e),(cn .f32 c,cn .f32 f))) ns.length) w):=by
  have hr0:(0:Int) ≤ (ns.length:Int) - 1:=by omega
  have hr3:((ns.length:Int) - 1).toNat = ns.length - 1:=by omega
  have hr4:(ns.length:Int) - 1 < (ns.length:Int):=by omega
  have hwr:IntKind.i64.wrap ((ns.length:Int) - 1) = (ns.length:Int) - 1:=by
    rw [IntKind.wrap_i64]
    omega
  go_enter Tryz.func90,Tryz.ntmps90
  go_upto_region 1 with fail
  have W1b:Below w.heap.size w (w.alloc (.cells #[.float .f32 0,.float .f32 0] 79)):=(by repeat' (first | exact Below.refl _ _ | exact Nat.le_refl _ | refine below_drewN ?_ _ | refine Below.alloc ?_ (by first | (simp;done) | (simp;omega)) _ | refine Below.setCell ?_ (by first | (simp;done) | (simp;omega)) _ | refine below_step ?_ (by assumption)))
  
  have hkept:Kept [(⟨w.heap.size,0,none⟩,.float .f32 0),(⟨w.heap.size,1,none⟩,.float .f32 0)] [⟨w.heap.size,0,none⟩,⟨w.heap.size,1,none⟩] (w.alloc (.cells #[.float .f32 0,.float .f32 0] 79)):=by
    simp only [Kept,List.forall_mem_append,List.forall_mem_cons,List.not_mem_nil,false_implies,implies_true,and_true,true_and];(first | (go_simp;done) | (simp [World.cell?,World.frozen?,World.alloc,Array.getElem?_push];done))
  generalize w.alloc (.cells #[.float .f32 0,.float .f32 0] 79) = W1 at *
  have hK:=hkept;simp only [Kept,List.forall_mem_append,List.forall_mem_cons,List.not_mem_nil,false_implies,implies_true,and_true,true_and] at hK
  have hra:=s_ranges_any ns hok hl sb so nb no cap bb bo a b c d e f W1 (hsh.keep W1b) (keep hbx W1b)
  go_upto_region 2 with (go_at_call 96;refine hra.mono ?_;rintro _ w4 ⟨v,rs,rfl,hown,hrs,hb1⟩;have W1b:=below_step W1b hb1;have hkept:=keepT hkept hb1 rfl;clear hK;have hK:=hkept;simp only [Kept,List.forall_mem_append,List.forall_mem_cons,List.not_mem_nil,false_implies,implies_true,and_true,true_and] at hK)
  clear hra
  obtain ⟨g6,cap6,rfl,hg6,hg6s⟩:=hown.form (by omega)
  have hlen:rs.length = ns.length:=by have:=hown.1;rw [fr_len] at this;omega
  obtain ⟨f0,f1⟩:=fr_get rs (ns.length - 1) (by omega)
  have hA0:=hown.cellAt ((ns.length - 1) * 2) (by omega)
  have hA1:=hown.cellAt ((ns.length - 1) * 2 + 1) (by omega)
  rw [f0] at hA0
  rw [f1] at hA1
  have hget:Hid (topR (rangesS ns ((cn .f32 a,cn .f32 d),(cn .f32 b,cn .f32 e),(cn .f32 c,cn .f32 f))) ns.length = cn2 rs[ns.length - 1]):=by unfold Hid topR;rw [← hrs,List.getD_eq_getElem?_getD,List.getElem?_map,List.getElem?_eq_getElem (show ns.length - 1 < rs.length by omega)];rfl
  clear f0 f1
  generalize rs[ns.length - 1] = ra at *
  clear hown hrs
  go_wp2_with fail
  exact bodyPost_ret (v:=RgV ra.1 ra.2) (by simp [results,Tryz.results90,go_sem,hK,World.cell?_setCell_other,World.cell?_setCell_same'];first | done | exact ⟨rfl,rfl⟩) rfl ⟨_,_,rfl,hget.out.symm,bel2 W1b (by omega) ..⟩


set_option maxRecDepth 100000 in
set_option maxHeartbeats 4000000 in
theorem s_rangein_any (ns:List PN) (hnum:∀ n ∈ ns,n.nums.length < 10000000) (hvok:validS ns = true → OkAll ns) (nb no cap a b c d e f:Nat) (bp:Option Addr) (w:World) (hbp:ns ≠ [] → bp = some ⟨nb,no,none⟩) (hsh:∀ i (h:i < ns.length),NodeIn ns[i] nb (no + i * 4) w) (hlen:ns.length < 10000000) :
    Calls Tryz.prog 40 #[.agg #[.slice bp ns.length cap],BoxV a b c d e f] w (RetRi (rangeOk (validS ns) (cn .f32 a,cn .f32 b,cn .f32 c) (cn .f32 d,cn .f32 e,cn .f32 f)) (topR (rangesS ns ((cn .f32 a,cn .f32 d),(cn .f32 b,cn .f32 e),(cn .f32 c,cn .f32 f))) ns.length) w):=by
  obtain ⟨ok,hOk⟩:∃ ok,Hid (ok = rangeOk (validS ns) (cn .f32 a,cn .f32 b,cn .f32 c) (cn .f32 d,cn .f32 e,cn .f32 f)):=⟨_,rfl⟩
  rw [← hOk.out]
  go_enter Tryz.func40,Tryz.ntmps40
  go_upto_region 1 with fail
  have W1b:Below w.heap.size w (((w.alloc (.cells #[.slice bp ns.length cap] 33)).alloc (.cells #[.float .f32 a,.float .f32 b,.float .f32 c,.float .f32 d,.float .f32 e,.float .f32 f] 83)).alloc (.cells #[.float .f32 0,.float .f32 0] 79)):=(by repeat' (first | exact Below.refl _ _ | exact Nat.le_refl _ | refine below_drewN ?_ _ | refine Below.alloc ?_ (by first | (simp;done) | (simp;omega)) _ | refine Below.setCell ?_ (by first | (simp;done) | (simp;omega)) _ | refine below_step ?_ (by assumption)))
  
  have hkept:Kept [(⟨w.heap.size,0,none⟩,.slice bp ns.length cap),(⟨w.heap.size + 1,0,none⟩,.float .f32 a),(⟨w.heap.size + 1,1,none⟩,.float .f32 b),(⟨w.heap.size + 1,2,none⟩,.float .f32 c),(⟨w.heap.size + 1,3,none⟩,.float .f32 d),(⟨w.heap.size + 1,4,none⟩,.float .f32 e),(⟨w.heap.size + 1,5,none⟩,.float .f32 f),(⟨w.heap.size + 1 + 1,0,none⟩,.float .f32 0),(⟨w.heap.size + 1 + 1,1,none⟩,.float .f32 0)] [⟨w.heap.size + 1 + 1,0,none⟩,⟨w.heap.size + 1 + 1,1,none⟩] (((w.alloc (.cells #[.slice bp ns.length cap] 33)).alloc (.cells #[.float .f32 a,.float .f32 b,.float .f32 c,.float .f32 d,.float .f32 e,.float .f32 f] 83)).alloc (.cells #[.float .f32 0,.float .f32 0] 79)):=by
    simp only [Kept,List.forall_mem_append,List.forall_mem_cons,List.not_mem_nil,false_implies,implies_true,and_true,true_and];(first | (go_simp;done) | (simp [World.cell?,World.frozen?,World.alloc,Array.getElem?_push];done))
  generalize ((w.alloc (.cells #[.slice bp ns.length cap] 33)).alloc (.cells #[.float .f32 a,.float .f32 b,.float .f32 c,.float .f32 d,.float .f32 e,.float .f32 f] 83)).alloc (.cells #[.float .f32 0,.float .f32 0] 79) = W1 at *
  have hK:=hkept;simp only [Kept,List.forall_mem_append,List.forall_mem_cons,List.not_mem_nil,false_implies,implies_true,and_true,true_and] at hK
  have hv:=s_is_any ns hnum w.heap.size 0 nb no cap bp W1 (by simp [hK]) hbp (fun i h => (hsh i h).keep W1b) hlen
  cases hval:validS ns
  · have hno:Hid (ok = false):=by unfold Hid;rw [hOk.out,hval];rfl
    go_wp2_with (go_at_call 60;refine hv.mono ?_;rintro _ w2 ⟨rfl,hb1⟩;have W1b:=below_step W1b hb1;have hkept:=keepT hkept hb1 rfl;clear hK;have hK:=hkept;simp only [Kept,List.forall_mem_append,List.forall_mem_cons,List.not_mem_nil,false_implies,implies_true,and_true,true_and] at hK;rw [hval])
    exact bodyPost_ret (v:=.tuple #[RgV 0 0,.bool false]) (by simp [results,Tryz.results40,go_sem,hK,World.cell?_setCell_other,World.cell?_setCell_same'];first | done | exact ⟨rfl,rfl⟩) rfl (retRi_no hno.out (bel2 W1b (by omega) ..))
  cases hbx:boxP (cn .f32 a,cn .f32 b,cn .f32 c) (cn .f32 d,cn .f32 e,cn .f32 f)
  · have hno:Hid (ok = false):=by unfold Hid;rw [hOk.out,hval];unfold rangeOk;rw [hbx];rfl
    go_wp2_with (first | (go_at_call 60;refine hv.mono ?_;rintro _ w2 ⟨rfl,hb1⟩;have W1b:=below_step W1b hb1;have hkept:=keepT hkept hb1 rfl;clear hK;have hK:=hkept;simp only [Kept,List.forall_mem_append,List.forall_mem_cons,List.not_mem_nil,false_implies,implies_true,and_true,true_and] at hK;rw [hval]) | (go_at_call 89;refine (s_box_any a b c d e f _ _ _ (by simp only [Kept,List.forall_mem_append,List.forall_mem_cons,List.not_mem_nil,false_implies,implies_true,and_true,true_and];simp [hK])).mono ?_;rintro _ w3 ⟨rfl,hb1⟩;have W1b:=below_step W1b hb1;have hkept:=keepT hkept hb1 rfl;clear hK;have hK:=hkept;simp only [Kept,List.forall_mem_append,List.forall_mem_cons,List.not_mem_nil,false_implies,implies_true,and_true,true_and] at hK;rw [hbx]))
    exact bodyPost_ret (v:=.tuple #[RgV 0 0,.bool false]) (by simp [results,Tryz.results40,go_sem,hK,World.cell?_setCell_other,World.cell?_setCell_same'];first | done | exact ⟨rfl,rfl⟩) rfl (retRi_no hno.out (bel2 W1b (by omega) ..))
  have hyes:Hid (ok = true):=by unfold Hid;rw [hOk.out,hval];unfold rangeOk;rw [hbx];rfl
  have hl:1 ≤ ns.length ∧ ns.length ≤ 16:=by
    simp only [validS,Bool.and_eq_true,decide_eq_true_eq] at hval
    exact hval.1
  have hok:=hvok hval
  have hne:ns ≠ []:=by intro h;rw [h] at hl;simp at hl
  have hb:=hbp hne
  subst hb
  go_upto_region 3 with (first | (go_at_call 60;refine hv.mono ?_;rintro _ w2 ⟨rfl,hb1⟩;have W1b:=below_step W1b hb1;have hkept:=keepT hkept hb1 rfl;clear hK;have hK:=hkept;simp only [Kept,List.forall_mem_append,List.forall_mem_cons,List.not_mem_nil,false_implies,implies_true,and_true,true_and] at hK;rw [hval]) | (go_at_call 89;refine (s_box_any a b c d e f _ _ _ (by simp only [Kept,List.forall_mem_append,List.forall_mem_cons,List.not_mem_nil,false_implies,implies_true,and_true,true_and];simp [hK])).mono ?_;rintro _ w3 ⟨rfl,hb1⟩;have W1b:=below_step W1b hb1;have hkept:=keepT hkept hb1 rfl;clear hK;have hK:=hkept;simp only [Kept,List.forall_mem_append,List.forall_mem_cons,List.not_mem_nil,false_implies,implies_true,and_true,true_and] at hK;rw [hbx]))
  have hsh2:ShapeIn ns w.heap.size 0 nb no cap w3:=⟨by simp [hK],fun i h => (hsh i h).keep W1b⟩
  have hra:=s_rroot_any ns hok hl w.heap.size 0 nb no cap (w.heap.size + 1) 0 a b c d e f w3 hsh2 (by simp only [Kept,List.forall_mem_append,List.forall_mem_cons,List.not_mem_nil,false_implies,implies_true,and_true,true_and];simp [hK])
  clear hv hsh hbp hsh2
  go_wp2_with (go_at_call 90;refine hra.mono ?_;rintro _ w4 ⟨l,u,rfl,e0,hb1⟩;have W1b:=below_step W1b hb1;have hkept:=keepT hkept hb1 rfl;clear hK;have hK:=hkept;simp only [Kept,List.forall_mem_append,List.forall_mem_cons,List.not_mem_nil,false_implies,implies_true,and_true,true_and] at hK)
  exact bodyPost_ret (v:=.tuple #[RgV l u,.bool true]) (by simp [results,Tryz.results40,go_sem,hK,World.cell?_setCell_other,World.cell?_setCell_same'];first | done | exact ⟨rfl,rfl⟩) rfl ⟨_,_,by rw [hyes.out],by rw [hyes.out];exact e0,bel2 W1b (by omega) ..⟩
end Go.Proofs.YtdbpgblhnhdhoaaGreat

namespace Go.Proofs.YtdbpgblhnhdhoaaGreat
open Go.RowKit Go.Fl
theorem lek_leW {a b:Nat} (h:lek .f32 a b = true):leW a b:=by
  intro h2
  unfold lek at h
  rw [h2] at h
  cases h
theorem ite_same {α:Type} {c:Bool} {x y z:α} (h:c = true → x = y):(if c then x else z) = (if c then y else z):=by
  cases c
  · rfl
  · exact h rfl
/-- Both sides tell the same range. -/
theorem ri_same (ns:List PN) (l h:Nat × Nat × Nat):(if rangeOk (validF ns) l h then topR (rangesS ns ((l.1,h.1),(l.2.1,h.2.1),(l.2.2,h.2.2))) ns.length else (0,0)) = (if rangeOk (validF ns) l h then topR (rangesF ns ((l.1,h.1),(l.2.1,h.2.1),(l.2.2,h.2.2))) ns.length else (0,0)):=ite_same fun ho => by
  unfold rangeOk boxP at ho
  simp only [Bool.and_eq_true] at ho
  obtain ⟨hv,⟨⟨⟨⟨_,_⟩,h1⟩,h2⟩,h3⟩⟩:=ho
  exact congrArg (fun L => topR L ns.length) (ranges_same (valid_pos hv) (p:=((l.1,h.1),(l.2.1,h.2.1),(l.2.2,h.2.2))) ⟨lek_leW h1,lek_leW h2,lek_leW h3⟩).symm

/-- A range of a value comes back. -/
def RetR2 (bv:Bool) (R:Nat × Nat) (w:World) (e:Ending) (w':World):Prop:=∃ l h,e = .returned (.tuple #[RgV l h,.bool bv]) ∧ (cn .f32 l,cn .f32 h) = R ∧ Below w.heap.size w w'

inductive PhiX (n:Nat) (bv:Bool):FuncId → Array Value → Value → Prop
  | shape (args:Array Value) (G:Nat):PhiX n bv 15 args (.agg #[.slice (some ⟨G,0,none⟩) n n])
  | box (a b c d e f:Nat):PhiX n bv 41 #[BoxV a b c d e f] (BoxV a b c d e f)
  | spec (args:Array Value) (l u:Nat):PhiX n bv 40 args (.tuple #[RgV l u,.bool bv])
  | impl (args:Array Value) (l u:Nat):PhiX n bv 42 args (.tuple #[RgV l u,.bool bv])
  | eqs (args:Array Value):PhiX n bv 19 args (.bool true)
def ResX (R:Nat × Nat) (v:Value):Prop:=∀ (l u:Nat) ok,v = .tuple #[RgV l u,.bool ok] → (cn .f32 l,cn .f32 u) = R
theorem rg_inj {l u l' u':Nat} {ok ok':Bool} (h:Value.tuple #[RgV l u,.bool ok] = .tuple #[RgV l' u',.bool ok']):l = l' ∧ u = u':=by
  simp only [Value.tuple.injEq,Array.mk.injEq,List.cons.injEq,Value.agg.injEq,Value.float.injEq,true_and,and_true] at h
  omega
theorem one2r {w:World} {g B:Nat} {a b:Value} {T:TypeId} (hg:w.heap[g]? = some (.cells #[a,b] T (0,0))) (hB:B ≤ g) (x y:Value) :
    Kept [(⟨g,0,none⟩,x),(⟨g,1,none⟩,y)] [] ((w.setCell ⟨g,0,none⟩ x).setCell ⟨g,1,none⟩ y) ∧ Below B w ((w.setCell ⟨g,0,none⟩ x).setCell ⟨g,1,none⟩ y):=by
  have h:=set2 hg x y
  exact ⟨kcons (cells2 h.1).1 (kcons (cells2 h.1).2.1 knil),bel2 (Below.refl _ _) hB ..⟩


set_option maxRecDepth 100000 in
set_option maxHeartbeats 16000000 in
theorem law_rangein (ns:List PN) (bp:Option Addr) (nb no cap a b c d e f:Nat) (w:World) (hns:NodesIn ns bp nb no w) :
    Calls Tryz.prog 8 #[.agg #[.slice bp ns.length cap],BoxV a b c d e f] w (fun e' w' => e' = .returned (.bool true) ∧ Below w.heap.size w w'):=by
  have hsz:∀ w',Below w.heap.size w w' → Calls Tryz.prog 13 #[.agg #[.slice bp ns.length cap],.int .i64 1048576] w' (fun e w'' => e = .returned (.int .i64 (szS ns 1048576)) ∧ Below w'.heap.size w' w'') :=
    fun w' hb => sz_shape ns bp nb no cap 1048576 w' (hns.keep hb) (by omega)
  by_cases hneg:szS ns 1048576 < 0
  · have hm:=szS_neg hneg
    rw [hm] at hsz
    clear hm hneg hns
    go_enter Tryz.func8,Tryz.ntmps8
    go_wp2_with (go_at_call 13;refine (hsz _ (by repeat' (first | exact Below.refl _ _ | exact Nat.le_refl _ | refine below_drewN ?_ _ | refine Below.alloc ?_ (by first | (simp;done) | (simp;omega)) _ | refine Below.setCell ?_ (by first | (simp;done) | (simp;omega)) _ | refine below_step ?_ (by assumption)))).mono ?_;rintro _ w2 ⟨rfl,hb2⟩)
    go_ret
    exact ⟨rfl,(by repeat' (first | exact Below.refl _ _ | exact Nat.le_refl _ | refine below_drewN ?_ _ | refine Below.alloc ?_ (by first | (simp;done) | (simp;omega)) _ | refine Below.setCell ?_ (by first | (simp;done) | (simp;omega)) _ | refine below_step ?_ (by assumption)))⟩
  · obtain ⟨hsm,hnsm⟩:=szS_small (by omega) (by omega) hneg
    have hpos:0 ≤ szS ns 1048576:=by omega
    clear hneg
    generalize szS ns 1048576 = sz at *
    have hto:∀ w',Below w.heap.size w w' → Calls Tryz.prog 15 #[.agg #[.slice bp ns.length cap]] w' (RetSh ns w'):=fun w' hb => to_shape ns hsm hnsm bp nb no cap w' (hns.keep hb)
    have hnum:∀ n ∈ ns,n.nums.length < 10000000:=fun n hn => by have:=hnsm n hn;omega
    have hl7:ns.length < 10000000:=by omega
    have hsame:=ri_same ns (cn .f32 a,cn .f32 b,cn .f32 c) (cn .f32 d,cn .f32 e,cn .f32 f)
    have hsp:=fun G w' hn => s_rangein_any ns hnum (fun h => (valid_ok (by rw [← valid_same];exact h)).2) G 0 ns.length a b c d e f (some ⟨G,0,none⟩) w' (fun _ => rfl) hn hl7
    have him:=fun G w' hn => rangein_any ns hnum G 0 ns.length a b c d e f (some ⟨G,0,none⟩) w' (fun _ => rfl) hn hl7
    rw [valid_same] at hsp
    unfold RetRi at hsp him
    obtain ⟨bv,hbv⟩:∃ bv,bv = rangeOk (validF ns) (cn .f32 a,cn .f32 b,cn .f32 c) (cn .f32 d,cn .f32 e,cn .f32 f):=⟨_,rfl⟩
    rw [← hbv] at hsp him hsame
    simp only at hsame
    rw [hsame] at hsp
    generalize (if bv = true then topR (rangesF ns ((cn .f32 a,cn .f32 d),(cn .f32 b,cn .f32 e),(cn .f32 c,cn .f32 f))) ns.length else (0,0)) = R at *
    clear hsame hbv
    have hspec:∀ G (w':World),(∀ i (h:i < ns.length),NodeNew ns[i] G (0 + i * 4) w') → Calls Tryz.prog 40 #[.agg #[.slice (some ⟨G,0,none⟩) ns.length ns.length],BoxV a b c d e f] w' (RetR2 bv R w'):=fun G w' hn => hsp G w' (fun i h => (hn i h).into)
    have himpl:∀ G (w':World),(∀ i (h:i < ns.length),NodeNew ns[i] G (0 + i * 4) w') → Calls Tryz.prog 42 #[.agg #[.slice (some ⟨G,0,none⟩) ns.length ns.length],BoxV a b c d e f] w' (RetR2 bv R w'):=fun G w' hn => him G w' (fun i h => (hn i h).into)
    clear hsp him
    have heq:∀ G H (w':World),(∀ i (h:i < ns.length),NodeNew ns[i] G (0 + i * 4) w') → (∀ i (h:i < ns.length),NodeNew ns[i] H (0 + i * 4) w') → Calls Tryz.prog 19 #[.agg #[.slice (some ⟨G,0,none⟩) ns.length ns.length],.agg #[.slice (some ⟨H,0,none⟩) ns.length ns.length]] w' (fun e w'' => e = .returned (.bool true) ∧ Below w'.heap.size w' w'') :=
      fun G H w' h1 h2 => eq_shape ns hsm hnsm G H _ _ w' h1 h2
    clear hnsm hnum hns
    go_enter Tryz.func8,Tryz.ntmps8
    go_wp2_with fail
    have W1b:Below w.heap.size w ((w.alloc (.cells #[.slice bp ns.length cap] 24)).alloc (.cells #[.float .f32 a,.float .f32 b,.float .f32 c,.float .f32 d,.float .f32 e,.float .f32 f] 77)):=(by repeat' (first | exact Below.refl _ _ | exact Nat.le_refl _ | refine below_drewN ?_ _ | refine Below.alloc ?_ (by first | (simp;done) | (simp;omega)) _ | refine Below.setCell ?_ (by first | (simp;done) | (simp;omega)) _ | refine below_step ?_ (by assumption)))
    
    have hkept:Kept [(⟨w.heap.size,0,none⟩,.slice bp ns.length cap),(⟨w.heap.size + 1,0,none⟩,.float .f32 a),(⟨w.heap.size + 1,1,none⟩,.float .f32 b),(⟨w.heap.size + 1,2,none⟩,.float .f32 c),(⟨w.heap.size + 1,3,none⟩,.float .f32 d),(⟨w.heap.size + 1,4,none⟩,.float .f32 e),(⟨w.heap.size + 1,5,none⟩,.float .f32 f)] [] ((w.alloc (.cells #[.slice bp ns.length cap] 24)).alloc (.cells #[.float .f32 a,.float .f32 b,.float .f32 c,.float .f32 d,.float .f32 e,.float .f32 f] 77)):=by
      simp only [Kept,List.forall_mem_append,List.forall_mem_cons,List.not_mem_nil,false_implies,implies_true,and_true,true_and];(first | (go_simp;done) | (simp [World.cell?,World.frozen?,World.alloc,Array.getElem?_push];done))
    generalize (w.alloc (.cells #[.slice bp ns.length cap] 24)).alloc (.cells #[.float .f32 a,.float .f32 b,.float .f32 c,.float .f32 d,.float .f32 e,.float .f32 f] 77) = W1 at *
    refine (hsz _ W1b).mono ?_
    rintro _ w2 ⟨rfl,hb2⟩
    have W2b:=below_step W1b hb2
    have hkept:=keep hkept hb2
    clear hb2 W1b hsz
    go_upto_region 5 with fail
    refine Qg.wp_gdH 9 (by kernel_rfl) (by kernel_rfl) (by kernel_rfl) (by intro c a x v w h;cases x <;> exact h) (PhiX ns.length bv) (GdL ns w2 [18] [(6,#[F1 0,F1 0],79)] 21 (ResX R)) [6] (gdl_lasts ..) (gdl_start (by intro d hd;simp at hd;rcases hd with rfl | rfl | rfl <;> rfl) rfl) ?_
    intro hC0
    repeat (first
      | (refine Qg.walk_step fun K hK => ?_;apply Qg.one_det hC0 (by intro d hd;cases hd;decide) rfl;(focus (intro w' hw';have HK:=keep hkept hw';simp only [Kept,List.forall_mem_append,List.forall_mem_cons,List.not_mem_nil,false_implies,implies_true,and_true,true_and] at HK;go_simp;first | done | rfl));(focus (intro w' hw' hs;exact gdl_no (by decide) (by decide) (by decide)));go_simp;refine hK _ ?_;clear hK K)
      | (refine Qg.walk_step fun K hK => ?_;refine Qg.one_new (.cells #[F1 0,F1 0] 79) hC0 rfl ?_ ?_ ?_ ?_;(focus (intro w' hw';go_simp;first | done | rfl));(focus (intro w' hw';exact hw'.alloc hw'.size _));(focus (intro w' hw';exact gdl_new (by decide) (by simp) (by decide) hw'));intro _;go_simp;refine hK _ ?_;clear hK K)
      | (refine Qg.walk_step fun K hK => ?_;apply Qg.one_call _ _ hC0 (by intro d hd;cases hd;decide) rfl;(focus (intro w' hw';go_simp;first | done | exact ⟨rfl,rfl⟩));(focus (apply Exists.intro;(constructor <;> exact (0:Nat))));(focus (intro w' hw' hs; go_at_call 15;(refine (hto _ (below_step W2b hw')).mono ?_);rintro _ wA ⟨G,rfl,hnew,hG,hb1⟩;exact ⟨_,rfl,PhiX.shape _ _,gdl_shape hnew (by decide) (by decide),below_step hw' hb1,hb1⟩ ));intro v hv;cases hv;go_simp;refine hK _ ?_;clear hK K)
      | (refine Qg.walk_step fun K hK => ?_;apply Qg.one_call _ _ hC0 (by intro d hd;cases hd;decide) rfl;(focus (intro w' hw';go_simp;first | done | exact ⟨rfl,rfl⟩));(focus (apply Exists.intro;(constructor <;> exact (0:Nat))));(focus (intro w' hw' hs; go_at_call 41;refine (to_box _ _ _ _ _ _ _).mono ?_;rintro _ wA ⟨rfl,hb1⟩;exact ⟨_,rfl,PhiX.box _ _ _ _ _ _,gdl_no (by decide) (by decide) (by decide),below_step hw' hb1,hb1⟩ ));intro v hv;cases hv;go_simp;refine hK _ ?_;clear hK K)
      | (refine Qg.walk_step fun K hK => ?_;apply Qg.one_call _ _ hC0 (by intro d hd;cases hd;decide) rfl;(focus (intro w' hw';go_simp;first | done | exact ⟨rfl,rfl⟩));(focus (apply Exists.intro;(constructor <;> exact (0:Nat))));(focus (intro w' hw' hs; go_at_call 40;refine (hspec _ _ ((hs 18 (of_decide_eq_true (by kernel_rfl))).1 (by decide) _ rfl)).mono ?_;rintro _ wA ⟨l1,u1,rfl,hp,hb1⟩;exact ⟨_,rfl,PhiX.spec _ _ _,gdl_res (by decide) (by decide) (by intro _ _ _ h;obtain ⟨rfl,rfl⟩:=rg_inj h;exact hp),below_step hw' hb1,hb1⟩ ));intro v hv;cases hv;go_simp;refine hK _ ?_;clear hK K))
    rename_i G l1 u1 g10
    refine Qg.walk_nil fun w6 hw6 hE => ?_
    have hp:(cn .f32 l1,cn .f32 u1) = R:=by
      rcases (hE.1 21).2.2 rfl with h | h
      · cases h
      · exact h _ _ _ rfl
    obtain ⟨g,e1,hg10,hgc10⟩:=(hE.1 6).2.1 (6,#[F1 0,F1 0],79) (by simp) rfl _ rfl
    injection e1 with e1;injection e1 with e1;subst e1
    clear hE
    obtain ⟨p0,p1,q0,q1⟩:=cells2 hgc10
    go_upto_region 6 with fail
    obtain ⟨hk6,hb6⟩:=one2r hgc10 hg10 (F1 l1) (F1 u1)
    clear p0 p1 q0 q1 hgc10 hg10
    have hw7:=hw6.trans hb6
    clear hw6 hb6
    generalize (w6.setCell ⟨g10,0,none⟩ (F1 l1)).setCell ⟨g10,1,none⟩ (F1 u1) = w7 at *
    have hkept:=kept_app (keep hkept hw7) hk6
    have W7b:=below_step W2b hw7
    clear hk6 hw7 hC0
    have hK:=hkept;simp only [Kept,List.forall_mem_append,List.forall_mem_cons,List.not_mem_nil,false_implies,implies_true,and_true,true_and] at hK
    go_upto_region 7 with (go_at_call 15;refine (hto _ W7b).mono ?_;rintro _ wA ⟨H,rfl,hnew,hH,hb1⟩)
    have hb7:Below wA.heap.size wA (wA.alloc (.cells #[.slice (some ⟨H,0,none⟩) ns.length ns.length] 33)):=(Below.refl _ _).alloc (Nat.le_refl _) _
    have hnew:∀ i (h:i < ns.length),NodeNew ns[i] H (0 + i * 4) (wA.alloc (.cells #[.slice (some ⟨H,0,none⟩) ns.length ns.length] 33)):=fun i h => (hnew i h).keep hb7
    have W8b:=below_step (below_step W7b hb1) hb7
    have hkept:=kept_app (keep (keep hkept hb1) hb7) (show Kept [(⟨wA.heap.size,0,none⟩,.slice (some ⟨H,0,none⟩) ns.length ns.length)] [] (wA.alloc (.cells #[.slice (some ⟨H,0,none⟩) ns.length ns.length] 33)) by simp only [Kept,List.forall_mem_append,List.forall_mem_cons,List.not_mem_nil,false_implies,implies_true,and_true,true_and];simp)
    clear hK hb1 hb7 W7b hH
    generalize wA.alloc (.cells #[.slice (some ⟨H,0,none⟩) ns.length ns.length] 33) = w8 at *
    refine Qg.wp_gdH 8 (by kernel_rfl) (by kernel_rfl) (by kernel_rfl) (by intro c a x v w h;cases x <;> exact h) (PhiX ns.length bv) (GdL ns w8 [] [(9,#[F1 0,F1 0],79)] 30 (ResX R)) [9] (gdl_lasts ..) (gdl_start (by intro d hd;simp at hd;rcases hd with rfl | rfl <;> rfl) rfl) ?_
    intro hC0
    repeat (first
      | (refine Qg.walk_step fun K hK => ?_;apply Qg.one_det hC0 (by intro d hd;cases hd;decide) rfl;(focus (intro w' hw';have HK:=keep hkept hw';simp only [Kept,List.forall_mem_append,List.forall_mem_cons,List.not_mem_nil,false_implies,implies_true,and_true,true_and] at HK;go_simp;first | done | rfl));(focus (intro w' hw' hs;exact gdl_no (by decide) (by decide) (by decide)));go_simp;refine hK _ ?_;clear hK K)
      | (refine Qg.walk_step fun K hK => ?_;refine Qg.one_new (.cells #[F1 0,F1 0] 79) hC0 rfl ?_ ?_ ?_ ?_;(focus (intro w' hw';go_simp;first | done | rfl));(focus (intro w' hw';exact hw'.alloc hw'.size _));(focus (intro w' hw';exact gdl_new (by decide) (by simp) (by decide) hw'));intro _;go_simp;refine hK _ ?_;clear hK K)
      | (refine Qg.walk_step fun K hK => ?_;apply Qg.one_call _ _ hC0 (by intro d hd;cases hd;decide) rfl;(focus (intro w' hw';go_simp;first | done | exact ⟨rfl,rfl⟩));(focus (apply Exists.intro;(constructor <;> exact (0:Nat))));(focus (intro w' hw' hs; go_at_call 41;refine (to_box _ _ _ _ _ _ _).mono ?_;rintro _ wA ⟨rfl,hb1⟩;exact ⟨_,rfl,PhiX.box _ _ _ _ _ _,gdl_no (by decide) (by decide) (by decide),below_step hw' hb1,hb1⟩ ));intro v hv;cases hv;go_simp;refine hK _ ?_;clear hK K)
      | (refine Qg.walk_step fun K hK => ?_;apply Qg.one_call _ _ hC0 (by intro d hd;cases hd;decide) rfl;(focus (intro w' hw';go_simp;first | done | exact ⟨rfl,rfl⟩));(focus (apply Exists.intro;(constructor <;> exact (0:Nat))));(focus (intro w' hw' hs; go_at_call 42;refine (himpl _ _ (fun i h => (hnew i h).keep hw')).mono ?_;rintro _ wA ⟨l2,u2,rfl,hq,hb1⟩;exact ⟨_,rfl,PhiX.impl _ _ _,gdl_res (by decide) (by decide) (by intro _ _ _ h;obtain ⟨rfl,rfl⟩:=rg_inj h;exact hq),below_step hw' hb1,hb1⟩ ));intro v hv;cases hv;go_simp;refine hK _ ?_;clear hK K))
    rename_i l2 u2 g14
    refine Qg.walk_nil fun w9 hw9 hE => ?_
    have hq:(cn .f32 l2,cn .f32 u2) = R:=by
      rcases (hE.1 30).2.2 rfl with h | h
      · cases h
      · exact h _ _ _ rfl
    obtain ⟨g,e1,hg14,hgc14⟩:=(hE.1 9).2.1 (9,#[F1 0,F1 0],79) (by simp) rfl _ rfl
    injection e1 with e1;injection e1 with e1;subst e1
    clear hE
    have hpq:=hq.trans hp.symm
    rw [Prod.mk.injEq] at hpq
    obtain ⟨e1,e2⟩:=hpq
    clear hp hq
    obtain ⟨p0,p1,q0,q1⟩:=cells2 hgc14
    go_upto_region 8 with fail
    obtain ⟨hk9,hb9⟩:=one2r hgc14 hg14 (F1 l2) (F1 u2)
    clear p0 p1 q0 q1 hgc14 hg14
    have hw10:=hw9.trans hb9
    clear hw9 hb9
    generalize (w9.setCell ⟨g14,0,none⟩ (F1 l2)).setCell ⟨g14,1,none⟩ (F1 u2) = w10 at *
    have hkept:=kept_app (keep hkept hw10) hk9
    have W10b:=below_step W8b hw10
    have hnew10:∀ i (h:i < ns.length),NodeNew ns[i] H (0 + i * 4) w10:=fun i h => (hnew i h).keep hw10
    clear hk9 hw10 hC0 hnew
    have hK:=hkept;simp only [Kept,List.forall_mem_append,List.forall_mem_cons,List.not_mem_nil,false_implies,implies_true,and_true,true_and] at hK
    have hRR:(bv != bv) = false:=by simp
    go_upto_region 10 with (go_at_call 43;refine (eq_range _ _ _ _ (by with_reducible assumption) (by with_reducible assumption) _).mono ?_;rintro _ w6 ⟨rfl,hb1⟩;have W10b:=below_step W10b hb1;have hnew10:=fun i h => NodeNew.keep (hnew10 i h) hb1;have hkept:=keepT hkept hb1 rfl;clear hK;have hK:=hkept;simp only [Kept,List.forall_mem_append,List.forall_mem_cons,List.not_mem_nil,false_implies,implies_true,and_true,true_and] at hK)
    clear hK e1 e2 hb1
    refine Qg.wp_gd_all (by kernel_rfl) (by kernel_rfl) (PhiX ns.length bv) (GdL ns w6 [44] [] 1000 (fun _ => True)) [] (gdl_lasts ..) (gdl_start (by intro d hd;simp at hd;rcases hd with rfl | rfl <;> rfl) rfl) ?_
    intro hC0
    repeat (first
      | (refine Qg.walk_step fun K hK => ?_;apply Qg.one_det hC0 (by intro d hd;cases hd;decide) rfl;(focus (intro w' hw';have HK:=keep hkept hw';simp only [Kept,List.forall_mem_append,List.forall_mem_cons,List.not_mem_nil,false_implies,implies_true,and_true,true_and] at HK;go_simp;first | done | rfl));(focus (intro w' hw' hs;exact gdl_no (by decide) (by decide) (by decide)));go_simp;refine hK _ ?_;clear hK K)
      | (refine Qg.walk_step fun K hK => ?_;apply Qg.one_call _ _ hC0 (by intro d hd;cases hd;decide) rfl;(focus (intro w' hw';go_simp;first | done | exact ⟨rfl,rfl⟩));(focus (apply Exists.intro;(constructor <;> exact (0:Nat))));(focus (intro w' hw' hs; go_at_call 15;(refine (hto _ (below_step W10b hw')).mono ?_);rintro _ wA ⟨G,rfl,hnew,hG,hb1⟩;exact ⟨_,rfl,PhiX.shape _ _,gdl_shape hnew (by decide) (by decide),below_step hw' hb1,hb1⟩ ));intro v hv;cases hv;go_simp;refine hK _ ?_;clear hK K)
      | (refine Qg.walk_step fun K hK => ?_;apply Qg.one_call _ _ hC0 (by intro d hd;cases hd;decide) rfl;(focus (intro w' hw';go_simp;first | done | exact ⟨rfl,rfl⟩));(focus (apply Exists.intro;(constructor <;> exact (0:Nat))));(focus (intro w' hw' hs; go_at_call 19;refine (heq _ _ _ (fun i h => (hnew10 i h).keep hw') ((hs 44 (of_decide_eq_true (by kernel_rfl))).1 (by decide) _ rfl)).mono ?_;rintro _ wA ⟨rfl,hb1⟩;exact ⟨_,rfl,PhiX.eqs _,gdl_no (by decide) (by decide) (by decide),below_step hw' hb1,hb1⟩ ));intro v hv;cases hv;go_simp;refine hK _ ?_;clear hK K))
    refine Qg.walk_nil fun w11 hw11 hE => ?_
    have W11b:=below_step W10b hw11
    clear hE
    go_wp2_with fail
    go_ret
    exact ⟨rfl,W11b⟩
end Go.Proofs.YtdbpgblhnhdhoaaGreat

namespace Go.Proofs.YtdbpgblhnhdhoaaGreat
open Go.RowKit Go.Fl Go.ChangeShapes Go.WideShapes Go.ChangeAt
set_option maxRecDepth 100000 in
theorem lifted_range_in_holds (os:Os) (started:os.Started) (H:Type) (enc:TypeId × Value → H) :
    ReturnsInHanded {} Tryz.checked os 8 .any (Rows.fnExactRangeInSpec.pre6 enc Tryz.prog Tryz.f8 Rows.fnExactRangeInRow.domain false) (Rows.fnExactRangeInSpec.post enc Tryz.prog Tryz.f8 false true false false):=by
  refine returnsInHanded_of_change (C:=Tryz.checked) own_knob started (by kernel_rfl) Tryz.func8
    (ChangeSpec.witness6 (enc:=enc) (C:=Tryz.checked) false ⟨#[],#[.agg #[.slice none 0 0],.agg #[.float .f32 0,.float .f32 0,.float .f32 0,.float .f32 0,.float .f32 0,.float .f32 0]],[]⟩ 12 (by kernel_rfl) (by kernel_rfl) (by kernel_rfl) (by kernel_rfl)) ?_
  intro W base args ds gs before hval0 hW hcnd _
  have hval:∀ (j:Nat) t v,Tryz.f8.params[j]? = some t → args[j]? = some v → Value.okWide Tryz.prog W .any base t v:=hval0
  have hW':=hW
  obtain ⟨p,q,hA0,hV,rfl,hfz,hnd⟩:=hW
  have hA:DataW.TrodAll enc Tryz.prog W 0 (fun _ => true) true Tryz.f8.params.toList args.toList ds p:=hA0
  rw [Tryz.params8] at hA hval
  obtain ⟨v0,v1,d0,d1,p0,p1,rfl,rfl,rfl,h0,h1⟩:=trodAll_2 hA
  obtain ⟨rfl,rfl⟩:=trodVars_none hV
  obtain ⟨ns,bp,nb,no,cap,rfl,hns⟩:=open_shape (hval 0 24 v0 rfl rfl) h0
  obtain ⟨a,b,c,d,e,f,rfl⟩:=open_box (hval 1 77 v1 rfl rfl) h1
  clear hA0 hval0
  simp only [List.append_nil] at hW'
  have hlt:∀ m ∈ p0 ++ (p1),m.block < W.heap.size:=fun m hm => hW'.lt m hm
  refine (law_rangein ns bp nb no cap a b c d e f W hns).mono fun e W' ⟨he,hg⟩ => ?_
  subst he
  have m0:∀ m ∈ p0,m ∈ p0 ++ (p1):=fun m h => by simp [h]
  have m1:∀ m ∈ p1,m ∈ p0 ++ (p1):=fun m h => by simp [h]
  refine ⟨_,rfl,post_below (pa:=p0 ++ (p1 ++ [])) (pv:=[]) hW' (fun _ _ _ => (trodAll_cons_mk (shut_bool Tryz.underlying4 _) trodAll_mk0)) (fun sp hsp => ?_) (fun _ _ => rfl) (by simp) hg (ok_one (by kernel_rfl) rfl (okWide_bool_mk Tryz.underlying4 _))⟩
  refine trodAll_cons_mk (WideElems.Trod_stays laid_out (by kernel_rfl) (of_decide_eq_true (by kernel_rfl)) h0 (fun m hm => hg.same (hlt m (m0 m hm))) (fun m hm => hsp m (m0 m hm))) ?_
  exact trodAll_cons_mk (WideElems.Trod_stays laid_out (by kernel_rfl) (of_decide_eq_true (by kernel_rfl)) h1 (fun m hm => hg.same (hlt m (m1 m hm))) (fun m hm => hsp m (m1 m hm))) trodAll_mk0

set_option maxRecDepth 100000 in
theorem range_in_holds:Rows.FnExactRangeInSaid :=
  OpenClaim.holds_of_wide 8 Tryz.f8 rfl rfl rfl rfl rfl rfl rfl ⟨rfl,rfl,rfl,rfl,rfl⟩ rfl rfl rfl rfl rfl (by kernel_rfl) Tryz.func8 (by kernel_rfl)
    (of_decide_eq_true (by kernel_rfl)) (by unfold Func.isWrapper;first | (rw [if_pos (by decide +kernel)];kernel_rfl) | (rw [if_neg (by decide +kernel)];exact ⟨rfl,rfl⟩))
    (fun os started H enc _ => lifted_range_in_holds os started H enc)
#print axioms range_in_holds
end Go.Proofs.YtdbpgblhnhdhoaaGreat
