/-
  Lemmas and the row.
-/
import Derived.Test.YtdbpgblhnhdhoaaGreatKce
import Derived.Test.YtdbpgblhnhdhoaaGreatKcg
set_option linter.unusedVariables false
set_option linter.unusedSimpArgs false
namespace Go.Proofs.YtdbpgblhnhdhoaaGreat
open Go.RowKit Go.Fl
set_option maxRecDepth 100000 in
set_option maxHeartbeats 4000000 in
theorem s_rroot_any (ns:List PN) (hok:OkAll ns) (hl:1 ≤ ns.length ∧ ns.length ≤ 16) (sb so nb no cap bb bo a b c d e f:Nat) (w:World) (hsh:ShapeIn ns sb so nb no cap w) (hbx:Kept [(⟨bb,bo,none⟩,F1 a),(⟨bb,bo + 1,none⟩,F1 b),(⟨bb,bo + 2,none⟩,F1 c),(⟨bb,bo + 3,none⟩,F1 d),(⟨bb,bo + 4,none⟩,F1 e),(⟨bb,bo + 5,none⟩,F1 f)] [] w) :
    Calls Tryz.prog 90 #[.pointer (some ⟨sb,so,none⟩),.pointer (some ⟨bb,bo,none⟩)] w (RetR (topR (rangesS ns ((cn .f32 a,cn .f32 d),(cn .f32 b,cn .f32 e),(cn .f32 c,cn .f32 f))) ns.length) w):=by
  have hr0:(0:Int) ≤ (ns.length:Int) - 1:=by omega
  have hr3:((ns.length:Int) - 1).toNat = ns.length - 1:=by omega
  have hr4:(ns.length:Int) - 1 < (ns.length:Int):=by omega
  have hwr:IntKind.i64.wrap ((ns.length:Int) - 1) = (ns.length:Int) - 1:=by
    rw [IntKind.wrap_i64]
    omega
  go_enter Tryz.func90,Tryz.ntmps90
  go_upto_region 1 with fail
  have W1b:Below w.heap.size w (w.alloc (.cells #[.float .f32 0,.float .f32 0] 79)):=(by repeat' (first | exact Below.refl _ _ | exact Nat.le_refl _ | refine below_drewN ?_ _ | refine Below.alloc ?_ (by first | (simp;done) | (simp;omega)) _ | refine Below.setCell ?_ (by first | (simp;done) | (simp;omega)) _ | refine below_step ?_ (by assumption)))
  
  have hkept:Kept [(⟨w.heap.size,0,none⟩,.float .f32 0),(⟨w.heap.size,1,none⟩,.float .f32 0)] [⟨w.heap.size,0,none⟩,⟨w.heap.size,1,none⟩] (w.alloc (.cells #[.float .f32 0,.float .f32 0] 79)):=by
    simp only [Kept,List.forall_mem_append,List.forall_mem_cons,List.not_mem_nil,false_implies,implies_true,and_true,true_and];(first | (go_simp;done) | (simp [World.cell?,World.frozen?,World.alloc,Array.getElem?_push];done))
  generalize w.alloc (.cells #[.float .f32 0,.float .f32 0] 79) = W1 at *
  have hK:=hkept;simp only [Kept,List.forall_mem_append,List.forall_mem_cons,List.not_mem_nil,false_implies,implies_true,and_true,true_and] at hK
  have hra:=s_ranges_any ns hok hl sb so nb no cap bb bo a b c d e f W1 (hsh.keep W1b) (keep hbx W1b)
  go_upto_region 2 with (go_at_call 96;refine hra.mono ?_;rintro _ w4 ⟨v,rs,rfl,hown,hrs,hb1⟩;have W1b:=below_step W1b hb1;have hkept:=keepT hkept hb1 rfl;clear hK;have hK:=hkept;simp only [Kept,List.forall_mem_append,List.forall_mem_cons,List.not_mem_nil,false_implies,implies_true,and_true,true_and] at hK)
  clear hra
  obtain ⟨g6,cap6,rfl,hg6,hg6s⟩:=hown.form (by omega)
  have hlen:rs.length = ns.length:=by have:=hown.1;rw [fr_len] at this;omega
  obtain ⟨f0,f1⟩:=fr_get rs (ns.length - 1) (by omega)
  have hA0:=hown.cellAt ((ns.length - 1) * 2) (by omega)
  have hA1:=hown.cellAt ((ns.length - 1) * 2 + 1) (by omega)
  rw [f0] at hA0
  rw [f1] at hA1
  have hget:Hid (topR (rangesS ns ((cn .f32 a,cn .f32 d),(cn .f32 b,cn .f32 e),(cn .f32 c,cn .f32 f))) ns.length = cn2 rs[ns.length - 1]):=by unfold Hid topR;rw [← hrs,List.getD_eq_getElem?_getD,List.getElem?_map,List.getElem?_eq_getElem (show ns.length - 1 < rs.length by omega)];rfl
  clear f0 f1
  generalize rs[ns.length - 1] = ra at *
  clear hown hrs
  go_wp2_with fail
  exact bodyPost_ret (v:=RgV ra.1 ra.2) (by simp [results,Tryz.results90,go_sem,hK,World.cell?_setCell_other,World.cell?_setCell_same'];first | done | exact ⟨rfl,rfl⟩) rfl ⟨_,_,rfl,hget.out.symm,bel2 W1b (by omega) ..⟩
/-- The sign of a range. -/
def signP (R:Nat × Nat):Int:=if ltk .f32 R.2 0 then -1 else if gtk .f32 R.1 0 then 1 else 0
def RetSg (s:Int) (w:World) (e:Ending) (w':World):Prop:=e = .returned (.int .i64 s) ∧ Below w.heap.size w w'
theorem sign_raw (l h:Nat):signP (cn .f32 l,cn .f32 h) = (if FloatKind.f32.format.order h 0 == some .lt then -1 else if FloatKind.f32.format.order l 0 == some .gt then 1 else 0):=by
  unfold signP ltk gtk
  rw [ord_r0,ord_r0]

set_option maxRecDepth 100000 in
set_option maxHeartbeats 4000000 in
theorem sign_any (ns:List PN) (hok:OkAll ns) (hl:1 ≤ ns.length ∧ ns.length ≤ 16) (sb so nb no cap a b c d e f:Nat) (w:World) (hsh:ShapeIn ns sb so nb no cap w) :
    Calls Tryz.prog 95 #[.pointer (some ⟨sb,so,none⟩),BoxV a b c d e f] w (RetSg (signP (topR (rangesF ns ((cn .f32 a,cn .f32 d),(cn .f32 b,cn .f32 e),(cn .f32 c,cn .f32 f))) ns.length)) w):=by
  have hr0:(0:Int) ≤ (ns.length:Int) - 1:=by omega
  have hr3:((ns.length:Int) - 1).toNat = ns.length - 1:=by omega
  have hr4:(ns.length:Int) - 1 < (ns.length:Int):=by omega
  obtain ⟨S,hS⟩:∃ S,Hid (signP (topR (rangesF ns ((cn .f32 a,cn .f32 d),(cn .f32 b,cn .f32 e),(cn .f32 c,cn .f32 f))) ns.length) = S):=⟨_,rfl⟩
  rw [hS.out]
  go_enter Tryz.func95,Tryz.ntmps95
  go_upto_region 1 with fail
  have W1b:Below w.heap.size w (w.alloc (.cells #[.float .f32 a,.float .f32 b,.float .f32 c,.float .f32 d,.float .f32 e,.float .f32 f] 83)):=(by repeat' (first | exact Below.refl _ _ | exact Nat.le_refl _ | refine below_drewN ?_ _ | refine Below.alloc ?_ (by first | (simp;done) | (simp;omega)) _ | refine Below.setCell ?_ (by first | (simp;done) | (simp;omega)) _ | refine below_step ?_ (by assumption)))
  
  have hkept:Kept [(⟨w.heap.size,0,none⟩,.float .f32 a),(⟨w.heap.size,1,none⟩,.float .f32 b),(⟨w.heap.size,2,none⟩,.float .f32 c),(⟨w.heap.size,3,none⟩,.float .f32 d),(⟨w.heap.size,4,none⟩,.float .f32 e),(⟨w.heap.size,5,none⟩,.float .f32 f)] [] (w.alloc (.cells #[.float .f32 a,.float .f32 b,.float .f32 c,.float .f32 d,.float .f32 e,.float .f32 f] 83)):=by
    simp only [Kept,List.forall_mem_append,List.forall_mem_cons,List.not_mem_nil,false_implies,implies_true,and_true,true_and];(first | (go_simp;done) | (simp [World.cell?,World.frozen?,World.alloc,Array.getElem?_push];done))
  generalize w.alloc (.cells #[.float .f32 a,.float .f32 b,.float .f32 c,.float .f32 d,.float .f32 e,.float .f32 f] 83) = W1 at *
  have hK:=hkept;simp only [Kept,List.forall_mem_append,List.forall_mem_cons,List.not_mem_nil,false_implies,implies_true,and_true,true_and] at hK
  have hsh2:=hsh.keep W1b
  have hra:=ranges_any ns hok hl sb so nb no cap a b c d e f W1 hsh2
  go_upto_region 2 with (first
    | (go_at_call 92;refine hra.mono ?_;rintro _ w4 ⟨g,O,rfl,hpb,hO,hg,hb1⟩;have hgw:w.heap.size ≤ g:=Nat.le_trans W1b.size hg;have W1b:=below_step W1b hb1;have hsh2:=hsh2.keep hb1;have hkept:=keepT hkept hb1 rfl;clear hK;have hK:=hkept;simp only [Kept,List.forall_mem_append,List.forall_mem_cons,List.not_mem_nil,false_implies,implies_true,and_true,true_and] at hK;obtain ⟨q0,q1⟩:=vec2_at hpb (ns.length - 1) (by omega))
    | (go_at_call 93;refine (last_any sb so _ _ _ _ hsh2.list).mono ?_;rintro _ _ ⟨rfl,rfl⟩;rw [last_len ⟨hl.1,by omega⟩]))
  have hget:=hO (ns.length - 1) (by omega)
  replace hS:=hS.out
  unfold topR at hS
  rw [← hget] at hS
  replace hS:=(sign_raw _ _).symm.trans hS
  clear hra hO hget hpb
  generalize (O (ns.length - 1)).1 = l at *
  generalize (O (ns.length - 1)).2 = h at *
  have hw:=W1b.size
  cases h1:FloatKind.f32.format.order h 0 == some .lt <;> cases h2:FloatKind.f32.format.order l 0 == some .gt
  all_goals
    rw [h1,h2] at hS
    simp only [Bool.false_eq_true,if_false,if_true] at hS
    subst hS
    go_wp2_with fail
    go_ret
    exact ⟨rfl,W1b.alloc (by omega) _⟩

/-- A sign and whether it is right come back. -/
def RetSi (ok:Bool) (R:Nat × Nat) (w:World) (e:Ending) (w':World):Prop:=e = .returned (.tuple #[.int .i64 (if ok then signP R else 0),.bool ok]) ∧ Below w.heap.size w w'
theorem retSi_no {ok:Bool} {R:Nat × Nat} {w w':World} (h:ok = false) (hb:Below w.heap.size w w'):RetSi ok R w (.returned (.tuple #[.int .i64 0,.bool false])) w':=⟨by rw [h];rfl,hb⟩
theorem retSi_yes {ok:Bool} {R:Nat × Nat} {s:Int} {w w':World} (h:ok = true) (hs:signP R = s) (hb:Below w.heap.size w w'):RetSi ok R w (.returned (.tuple #[.int .i64 s,.bool true])) w':=⟨by rw [h,← hs];rfl,hb⟩


set_option maxRecDepth 100000 in
set_option maxHeartbeats 4000000 in
theorem signin_any (ns:List PN) (hnum:∀ n ∈ ns,n.nums.length < 10000000) (nb no cap a b c d e f:Nat) (bp:Option Addr) (w:World) (hbp:ns ≠ [] → bp = some ⟨nb,no,none⟩) (hsh:∀ i (h:i < ns.length),NodeIn ns[i] nb (no + i * 4) w) (hlen:ns.length < 10000000) :
    Calls Tryz.prog 45 #[.agg #[.slice bp ns.length cap],BoxV a b c d e f] w (RetSi (rangeOk (validF ns) (cn .f32 a,cn .f32 b,cn .f32 c) (cn .f32 d,cn .f32 e,cn .f32 f)) (topR (rangesF ns ((cn .f32 a,cn .f32 d),(cn .f32 b,cn .f32 e),(cn .f32 c,cn .f32 f))) ns.length) w):=by
  obtain ⟨ok,hOk⟩:∃ ok,Hid (ok = rangeOk (validF ns) (cn .f32 a,cn .f32 b,cn .f32 c) (cn .f32 d,cn .f32 e,cn .f32 f)):=⟨_,rfl⟩
  rw [← hOk.out]
  go_enter Tryz.func45,Tryz.ntmps45
  go_upto_region 1 with fail
  have W1b:Below w.heap.size w ((w.alloc (.cells #[.slice bp ns.length cap] 33)).alloc (.cells #[.float .f32 a,.float .f32 b,.float .f32 c,.float .f32 d,.float .f32 e,.float .f32 f] 83)):=(by repeat' (first | exact Below.refl _ _ | exact Nat.le_refl _ | refine below_drewN ?_ _ | refine Below.alloc ?_ (by first | (simp;done) | (simp;omega)) _ | refine Below.setCell ?_ (by first | (simp;done) | (simp;omega)) _ | refine below_step ?_ (by assumption)))
  
  have hkept:Kept [(⟨w.heap.size,0,none⟩,.slice bp ns.length cap),(⟨w.heap.size + 1,0,none⟩,.float .f32 a),(⟨w.heap.size + 1,1,none⟩,.float .f32 b),(⟨w.heap.size + 1,2,none⟩,.float .f32 c),(⟨w.heap.size + 1,3,none⟩,.float .f32 d),(⟨w.heap.size + 1,4,none⟩,.float .f32 e),(⟨w.heap.size + 1,5,none⟩,.float .f32 f)] [] ((w.alloc (.cells #[.slice bp ns.length cap] 33)).alloc (.cells #[.float .f32 a,.float .f32 b,.float .f32 c,.float .f32 d,.float .f32 e,.float .f32 f] 83)):=by
    simp only [Kept,List.forall_mem_append,List.forall_mem_cons,List.not_mem_nil,false_implies,implies_true,and_true,true_and];(first | (go_simp;done) | (simp [World.cell?,World.frozen?,World.alloc,Array.getElem?_push];done))
  generalize (w.alloc (.cells #[.slice bp ns.length cap] 33)).alloc (.cells #[.float .f32 a,.float .f32 b,.float .f32 c,.float .f32 d,.float .f32 e,.float .f32 f] 83) = W1 at *
  have hv:=valid_any ns hnum nb no cap bp W1 hbp (fun i h => (hsh i h).keep W1b) hlen
  have hK:=hkept;simp only [Kept,List.forall_mem_append,List.forall_mem_cons,List.not_mem_nil,false_implies,implies_true,and_true,true_and] at hK
  cases hval:validF ns
  · have hno:Hid (ok = false):=by unfold Hid;rw [hOk.out,hval];rfl
    go_wp2_with (go_at_call 65;refine hv.mono ?_;rintro _ w2 ⟨rfl,hb1⟩;have W1b:=below_step W1b hb1;have hkept:=keepT hkept hb1 rfl;clear hK;have hK:=hkept;simp only [Kept,List.forall_mem_append,List.forall_mem_cons,List.not_mem_nil,false_implies,implies_true,and_true,true_and] at hK;rw [hval])
    exact bodyPost_ret (v:=.tuple #[.int .i64 0,.bool false]) (by simp [results,Tryz.results45,go_sem,hK,World.cell?_setCell_other,World.cell?_setCell_same'];first | done | exact ⟨rfl,rfl⟩) rfl (retSi_no hno.out W1b)
  cases hbx:boxP (cn .f32 a,cn .f32 b,cn .f32 c) (cn .f32 d,cn .f32 e,cn .f32 f)
  · have hno:Hid (ok = false):=by unfold Hid;rw [hOk.out,hval];unfold rangeOk;rw [hbx];rfl
    go_wp2_with (first | (go_at_call 65;refine hv.mono ?_;rintro _ w2 ⟨rfl,hb1⟩;have W1b:=below_step W1b hb1;have hkept:=keepT hkept hb1 rfl;clear hK;have hK:=hkept;simp only [Kept,List.forall_mem_append,List.forall_mem_cons,List.not_mem_nil,false_implies,implies_true,and_true,true_and] at hK;rw [hval]) | (go_at_call 91;refine (box_any _ _ _ _ _ _ _).mono ?_;rintro _ w3 ⟨rfl,hb1⟩;have W1b:=below_step W1b hb1;have hkept:=keepT hkept hb1 rfl;clear hK;have hK:=hkept;simp only [Kept,List.forall_mem_append,List.forall_mem_cons,List.not_mem_nil,false_implies,implies_true,and_true,true_and] at hK;rw [hbx]))
    exact bodyPost_ret (v:=.tuple #[.int .i64 0,.bool false]) (by simp [results,Tryz.results45,go_sem,hK,World.cell?_setCell_other,World.cell?_setCell_same'];first | done | exact ⟨rfl,rfl⟩) rfl (retSi_no hno.out W1b)
  have hyes:Hid (ok = true):=by unfold Hid;rw [hOk.out,hval];unfold rangeOk;rw [hbx];rfl
  obtain ⟨hl,hok⟩:=valid_ok hval
  have hne:ns ≠ []:=by intro h;rw [h] at hl;simp at hl
  have hb:=hbp hne
  subst hb
  go_upto_region 3 with (first | (go_at_call 65;refine hv.mono ?_;rintro _ w2 ⟨rfl,hb1⟩;have W1b:=below_step W1b hb1;have hkept:=keepT hkept hb1 rfl;clear hK;have hK:=hkept;simp only [Kept,List.forall_mem_append,List.forall_mem_cons,List.not_mem_nil,false_implies,implies_true,and_true,true_and] at hK;rw [hval]) | (go_at_call 91;refine (box_any _ _ _ _ _ _ _).mono ?_;rintro _ w3 ⟨rfl,hb1⟩;have W1b:=below_step W1b hb1;have hkept:=keepT hkept hb1 rfl;clear hK;have hK:=hkept;simp only [Kept,List.forall_mem_append,List.forall_mem_cons,List.not_mem_nil,false_implies,implies_true,and_true,true_and] at hK;rw [hbx]))
  have hsh2:ShapeIn ns w.heap.size 0 nb no cap w3:=⟨by simp [hK],fun i h => (hsh i h).keep W1b⟩
  have hra:=sign_any ns hok hl w.heap.size 0 nb no cap a b c d e f w3 hsh2
  obtain ⟨S,hS⟩:∃ S,Hid (signP (topR (rangesF ns ((cn .f32 a,cn .f32 d),(cn .f32 b,cn .f32 e),(cn .f32 c,cn .f32 f))) ns.length) = S):=⟨_,rfl⟩
  rw [hS.out] at hra
  clear hv hsh hbp hsh2
  go_wp2_with (go_at_call 95;refine hra.mono ?_;rintro _ w4 ⟨rfl,hb1⟩;have W1b:=below_step W1b hb1;have hkept:=keepT hkept hb1 rfl;clear hK;have hK:=hkept;simp only [Kept,List.forall_mem_append,List.forall_mem_cons,List.not_mem_nil,false_implies,implies_true,and_true,true_and] at hK)
  exact bodyPost_ret (v:=.tuple #[.int .i64 S,.bool true]) (by simp [results,Tryz.results45,go_sem,hK,World.cell?_setCell_other,World.cell?_setCell_same'];first | done | exact ⟨rfl,rfl⟩) rfl (retSi_yes hyes.out hS.out W1b)
set_option maxRecDepth 100000 in
set_option maxHeartbeats 4000000 in
theorem s_sign_any (ns:List PN) (hok:OkAll ns) (hl:1 ≤ ns.length ∧ ns.length ≤ 16) (sb so nb no cap bb bo a b c d e f:Nat) (w:World) (hsh:ShapeIn ns sb so nb no cap w) (hbx:Kept [(⟨bb,bo,none⟩,F1 a),(⟨bb,bo + 1,none⟩,F1 b),(⟨bb,bo + 2,none⟩,F1 c),(⟨bb,bo + 3,none⟩,F1 d),(⟨bb,bo + 4,none⟩,F1 e),(⟨bb,bo + 5,none⟩,F1 f)] [] w) :
    Calls Tryz.prog 94 #[.pointer (some ⟨sb,so,none⟩),.pointer (some ⟨bb,bo,none⟩)] w (RetSg (signP (topR (rangesS ns ((cn .f32 a,cn .f32 d),(cn .f32 b,cn .f32 e),(cn .f32 c,cn .f32 f))) ns.length)) w):=by
  obtain ⟨S,hS⟩:∃ S,Hid (signP (topR (rangesS ns ((cn .f32 a,cn .f32 d),(cn .f32 b,cn .f32 e),(cn .f32 c,cn .f32 f))) ns.length) = S):=⟨_,rfl⟩
  rw [hS.out]
  have hra:=s_rroot_any ns hok hl sb so nb no cap bb bo a b c d e f w hsh hbx
  generalize topR (rangesS ns ((cn .f32 a,cn .f32 d),(cn .f32 b,cn .f32 e),(cn .f32 c,cn .f32 f))) ns.length = R at *
  have W1b:=Below.refl w.heap.size w
  go_enter Tryz.func94,Tryz.ntmps94
  go_upto_region 2 with (go_at_call 90;refine hra.mono ?_;rintro _ w4 ⟨l,h,rfl,e0,hb1⟩;have W1b:=below_step W1b hb1)
  replace hS:=hS.out
  rw [← e0] at hS
  replace hS:=(sign_raw _ _).symm.trans hS
  have hw:=W1b.size
  cases h1:FloatKind.f32.format.order h 0 == some .lt <;> cases h2:FloatKind.f32.format.order l 0 == some .gt
  all_goals
    rw [h1,h2] at hS
    simp only [Bool.false_eq_true,if_false,if_true] at hS
    subst hS
    go_wp2_with fail
    go_ret
    exact ⟨rfl,W1b.alloc (by omega) _⟩


set_option maxRecDepth 100000 in
set_option maxHeartbeats 4000000 in
theorem s_signin_any (ns:List PN) (hnum:∀ n ∈ ns,n.nums.length < 10000000) (hvok:validS ns = true → OkAll ns) (nb no cap a b c d e f:Nat) (bp:Option Addr) (w:World) (hbp:ns ≠ [] → bp = some ⟨nb,no,none⟩) (hsh:∀ i (h:i < ns.length),NodeIn ns[i] nb (no + i * 4) w) (hlen:ns.length < 10000000) :
    Calls Tryz.prog 44 #[.agg #[.slice bp ns.length cap],BoxV a b c d e f] w (RetSi (rangeOk (validS ns) (cn .f32 a,cn .f32 b,cn .f32 c) (cn .f32 d,cn .f32 e,cn .f32 f)) (topR (rangesS ns ((cn .f32 a,cn .f32 d),(cn .f32 b,cn .f32 e),(cn .f32 c,cn .f32 f))) ns.length) w):=by
  obtain ⟨ok,hOk⟩:∃ ok,Hid (ok = rangeOk (validS ns) (cn .f32 a,cn .f32 b,cn .f32 c) (cn .f32 d,cn .f32 e,cn .f32 f)):=⟨_,rfl⟩
  rw [← hOk.out]
  go_enter Tryz.func44,Tryz.ntmps44
  go_upto_region 1 with fail
  have W1b:Below w.heap.size w ((w.alloc (.cells #[.slice bp ns.length cap] 33)).alloc (.cells #[.float .f32 a,.float .f32 b,.float .f32 c,.float .f32 d,.float .f32 e,.float .f32 f] 83)):=(by repeat' (first | exact Below.refl _ _ | exact Nat.le_refl _ | refine below_drewN ?_ _ | refine Below.alloc ?_ (by first | (simp;done) | (simp;omega)) _ | refine Below.setCell ?_ (by first | (simp;done) | (simp;omega)) _ | refine below_step ?_ (by assumption)))
  
  have hkept:Kept [(⟨w.heap.size,0,none⟩,.slice bp ns.length cap),(⟨w.heap.size + 1,0,none⟩,.float .f32 a),(⟨w.heap.size + 1,1,none⟩,.float .f32 b),(⟨w.heap.size + 1,2,none⟩,.float .f32 c),(⟨w.heap.size + 1,3,none⟩,.float .f32 d),(⟨w.heap.size + 1,4,none⟩,.float .f32 e),(⟨w.heap.size + 1,5,none⟩,.float .f32 f)] [] ((w.alloc (.cells #[.slice bp ns.length cap] 33)).alloc (.cells #[.float .f32 a,.float .f32 b,.float .f32 c,.float .f32 d,.float .f32 e,.float .f32 f] 83)):=by
    simp only [Kept,List.forall_mem_append,List.forall_mem_cons,List.not_mem_nil,false_implies,implies_true,and_true,true_and];(first | (go_simp;done) | (simp [World.cell?,World.frozen?,World.alloc,Array.getElem?_push];done))
  generalize (w.alloc (.cells #[.slice bp ns.length cap] 33)).alloc (.cells #[.float .f32 a,.float .f32 b,.float .f32 c,.float .f32 d,.float .f32 e,.float .f32 f] 83) = W1 at *
  have hK:=hkept;simp only [Kept,List.forall_mem_append,List.forall_mem_cons,List.not_mem_nil,false_implies,implies_true,and_true,true_and] at hK
  have hv:=s_is_any ns hnum w.heap.size 0 nb no cap bp W1 (by simp [hK]) hbp (fun i h => (hsh i h).keep W1b) hlen
  cases hval:validS ns
  · have hno:Hid (ok = false):=by unfold Hid;rw [hOk.out,hval];rfl
    go_wp2_with (go_at_call 60;refine hv.mono ?_;rintro _ w2 ⟨rfl,hb1⟩;have W1b:=below_step W1b hb1;have hkept:=keepT hkept hb1 rfl;clear hK;have hK:=hkept;simp only [Kept,List.forall_mem_append,List.forall_mem_cons,List.not_mem_nil,false_implies,implies_true,and_true,true_and] at hK;rw [hval])
    exact bodyPost_ret (v:=.tuple #[.int .i64 0,.bool false]) (by simp [results,Tryz.results44,go_sem,hK,World.cell?_setCell_other,World.cell?_setCell_same'];first | done | exact ⟨rfl,rfl⟩) rfl (retSi_no hno.out W1b)
  cases hbx:boxP (cn .f32 a,cn .f32 b,cn .f32 c) (cn .f32 d,cn .f32 e,cn .f32 f)
  · have hno:Hid (ok = false):=by unfold Hid;rw [hOk.out,hval];unfold rangeOk;rw [hbx];rfl
    go_wp2_with (first | (go_at_call 60;refine hv.mono ?_;rintro _ w2 ⟨rfl,hb1⟩;have W1b:=below_step W1b hb1;have hkept:=keepT hkept hb1 rfl;clear hK;have hK:=hkept;simp only [Kept,List.forall_mem_append,List.forall_mem_cons,List.not_mem_nil,false_implies,implies_true,and_true,true_and] at hK;rw [hval]) | (go_at_call 89;refine (s_box_any a b c d e f _ _ _ (by simp only [Kept,List.forall_mem_append,List.forall_mem_cons,List.not_mem_nil,false_implies,implies_true,and_true,true_and];simp [hK])).mono ?_;rintro _ w3 ⟨rfl,hb1⟩;have W1b:=below_step W1b hb1;have hkept:=keepT hkept hb1 rfl;clear hK;have hK:=hkept;simp only [Kept,List.forall_mem_append,List.forall_mem_cons,List.not_mem_nil,false_implies,implies_true,and_true,true_and] at hK;rw [hbx]))
    exact bodyPost_ret (v:=.tuple #[.int .i64 0,.bool false]) (by simp [results,Tryz.results44,go_sem,hK,World.cell?_setCell_other,World.cell?_setCell_same'];first | done | exact ⟨rfl,rfl⟩) rfl (retSi_no hno.out W1b)
  have hyes:Hid (ok = true):=by unfold Hid;rw [hOk.out,hval];unfold rangeOk;rw [hbx];rfl
  have hl:1 ≤ ns.length ∧ ns.length ≤ 16:=by
    simp only [validS,Bool.and_eq_true,decide_eq_true_eq] at hval
    exact hval.1
  have hok:=hvok hval
  have hne:ns ≠ []:=by intro h;rw [h] at hl;simp at hl
  have hb:=hbp hne
  subst hb
  go_upto_region 3 with (first | (go_at_call 60;refine hv.mono ?_;rintro _ w2 ⟨rfl,hb1⟩;have W1b:=below_step W1b hb1;have hkept:=keepT hkept hb1 rfl;clear hK;have hK:=hkept;simp only [Kept,List.forall_mem_append,List.forall_mem_cons,List.not_mem_nil,false_implies,implies_true,and_true,true_and] at hK;rw [hval]) | (go_at_call 89;refine (s_box_any a b c d e f _ _ _ (by simp only [Kept,List.forall_mem_append,List.forall_mem_cons,List.not_mem_nil,false_implies,implies_true,and_true,true_and];simp [hK])).mono ?_;rintro _ w3 ⟨rfl,hb1⟩;have W1b:=below_step W1b hb1;have hkept:=keepT hkept hb1 rfl;clear hK;have hK:=hkept;simp only [Kept,List.forall_mem_append,List.forall_mem_cons,List.not_mem_nil,false_implies,implies_true,and_true,true_and] at hK;rw [hbx]))
  have hsh2:ShapeIn ns w.heap.size 0 nb no cap w3:=⟨by simp [hK],fun i h => (hsh i h).keep W1b⟩
  have hra:=s_sign_any ns hok hl w.heap.size 0 nb no cap (w.heap.size + 1) 0 a b c d e f w3 hsh2 (by simp only [Kept,List.forall_mem_append,List.forall_mem_cons,List.not_mem_nil,false_implies,implies_true,and_true,true_and];simp [hK])
  obtain ⟨S,hS⟩:∃ S,Hid (signP (topR (rangesS ns ((cn .f32 a,cn .f32 d),(cn .f32 b,cn .f32 e),(cn .f32 c,cn .f32 f))) ns.length) = S):=⟨_,rfl⟩
  rw [hS.out] at hra
  clear hv hsh hbp hsh2
  go_wp2_with (go_at_call 94;refine hra.mono ?_;rintro _ w4 ⟨rfl,hb1⟩;have W1b:=below_step W1b hb1;have hkept:=keepT hkept hb1 rfl;clear hK;have hK:=hkept;simp only [Kept,List.forall_mem_append,List.forall_mem_cons,List.not_mem_nil,false_implies,implies_true,and_true,true_and] at hK)
  exact bodyPost_ret (v:=.tuple #[.int .i64 S,.bool true]) (by simp [results,Tryz.results44,go_sem,hK,World.cell?_setCell_other,World.cell?_setCell_same'];first | done | exact ⟨rfl,rfl⟩) rfl (retSi_yes hyes.out hS.out W1b)
theorem lek_leW {a b:Nat} (h:lek .f32 a b = true):leW a b:=by
  intro h2
  unfold lek at h
  rw [h2] at h
  cases h
theorem ite_same {α:Type} {c:Bool} {x y z:α} (h:c = true → x = y):(if c then x else z) = (if c then y else z):=by
  cases c
  · rfl
  · exact h rfl
/-- Both sides tell the same sign. -/
theorem si_same (ns:List PN) (l h:Nat × Nat × Nat):(if rangeOk (validF ns) l h then signP (topR (rangesS ns ((l.1,h.1),(l.2.1,h.2.1),(l.2.2,h.2.2))) ns.length) else 0) = (if rangeOk (validF ns) l h then signP (topR (rangesF ns ((l.1,h.1),(l.2.1,h.2.1),(l.2.2,h.2.2))) ns.length) else 0):=ite_same fun ho => by
  unfold rangeOk boxP at ho
  simp only [Bool.and_eq_true] at ho
  obtain ⟨hv,⟨⟨⟨⟨_,_⟩,h1⟩,h2⟩,h3⟩⟩:=ho
  exact congrArg (fun L => signP (topR L ns.length)) (ranges_same (valid_pos hv) (p:=((l.1,h.1),(l.2.1,h.2.1),(l.2.2,h.2.2))) ⟨lek_leW h1,lek_leW h2,lek_leW h3⟩).symm

inductive PhiSg (n:Nat) (bv:Bool) (S:Int):FuncId → Array Value → Value → Prop
  | shape (args:Array Value) (G:Nat):PhiSg n bv S 15 args (.agg #[.slice (some ⟨G,0,none⟩) n n])
  | box (a b c d e f:Nat):PhiSg n bv S 41 #[BoxV a b c d e f] (BoxV a b c d e f)
  | spec (args:Array Value):PhiSg n bv S 44 args (.tuple #[.int .i64 S,.bool bv])
  | impl (args:Array Value):PhiSg n bv S 45 args (.tuple #[.int .i64 S,.bool bv])
  | eqs (args:Array Value):PhiSg n bv S 19 args (.bool true)

set_option maxRecDepth 100000 in
set_option maxHeartbeats 16000000 in
theorem law_signin (ns:List PN) (bp:Option Addr) (nb no cap a b c d e f:Nat) (w:World) (hns:NodesIn ns bp nb no w) :
    Calls Tryz.prog 9 #[.agg #[.slice bp ns.length cap],BoxV a b c d e f] w (fun e' w' => e' = .returned (.bool true) ∧ Below w.heap.size w w'):=by
  have hsz:∀ w',Below w.heap.size w w' → Calls Tryz.prog 13 #[.agg #[.slice bp ns.length cap],.int .i64 1048576] w' (fun e w'' => e = .returned (.int .i64 (szS ns 1048576)) ∧ Below w'.heap.size w' w'') :=
    fun w' hb => sz_shape ns bp nb no cap 1048576 w' (hns.keep hb) (by omega)
  by_cases hneg:szS ns 1048576 < 0
  · have hm:=szS_neg hneg
    rw [hm] at hsz
    clear hm hneg hns
    go_enter Tryz.func9,Tryz.ntmps9
    go_wp2_with (go_at_call 13;refine (hsz _ (by repeat' (first | exact Below.refl _ _ | exact Nat.le_refl _ | refine below_drewN ?_ _ | refine Below.alloc ?_ (by first | (simp;done) | (simp;omega)) _ | refine Below.setCell ?_ (by first | (simp;done) | (simp;omega)) _ | refine below_step ?_ (by assumption)))).mono ?_;rintro _ w2 ⟨rfl,hb2⟩)
    go_ret
    exact ⟨rfl,(by repeat' (first | exact Below.refl _ _ | exact Nat.le_refl _ | refine below_drewN ?_ _ | refine Below.alloc ?_ (by first | (simp;done) | (simp;omega)) _ | refine Below.setCell ?_ (by first | (simp;done) | (simp;omega)) _ | refine below_step ?_ (by assumption)))⟩
  · obtain ⟨hsm,hnsm⟩:=szS_small (by omega) (by omega) hneg
    have hpos:0 ≤ szS ns 1048576:=by omega
    clear hneg
    generalize szS ns 1048576 = sz at *
    have hto:∀ w',Below w.heap.size w w' → Calls Tryz.prog 15 #[.agg #[.slice bp ns.length cap]] w' (RetSh ns w'):=fun w' hb => to_shape ns hsm hnsm bp nb no cap w' (hns.keep hb)
    have hnum:∀ n ∈ ns,n.nums.length < 10000000:=fun n hn => by have:=hnsm n hn;omega
    have hl7:ns.length < 10000000:=by omega
    have hsame:=si_same ns (cn .f32 a,cn .f32 b,cn .f32 c) (cn .f32 d,cn .f32 e,cn .f32 f)
    have hsp:=fun G w' hn => s_signin_any ns hnum (fun h => (valid_ok (by rw [← valid_same];exact h)).2) G 0 ns.length a b c d e f (some ⟨G,0,none⟩) w' (fun _ => rfl) hn hl7
    have him:=fun G w' hn => signin_any ns hnum G 0 ns.length a b c d e f (some ⟨G,0,none⟩) w' (fun _ => rfl) hn hl7
    rw [valid_same] at hsp
    unfold RetSi at hsp him
    obtain ⟨bv,hbv⟩:∃ bv,bv = rangeOk (validF ns) (cn .f32 a,cn .f32 b,cn .f32 c) (cn .f32 d,cn .f32 e,cn .f32 f):=⟨_,rfl⟩
    rw [← hbv] at hsp him hsame
    simp only at hsame
    rw [hsame] at hsp
    generalize (if bv = true then signP (topR (rangesF ns ((cn .f32 a,cn .f32 d),(cn .f32 b,cn .f32 e),(cn .f32 c,cn .f32 f))) ns.length) else 0) = S at *
    clear hsame hbv
    have hspec:∀ G (w':World),(∀ i (h:i < ns.length),NodeNew ns[i] G (0 + i * 4) w') → Calls Tryz.prog 44 #[.agg #[.slice (some ⟨G,0,none⟩) ns.length ns.length],BoxV a b c d e f] w' (fun e w'' => e = .returned (.tuple #[.int .i64 S,.bool bv]) ∧ Below w'.heap.size w' w''):=fun G w' hn => hsp G w' (fun i h => (hn i h).into)
    have himpl:∀ G (w':World),(∀ i (h:i < ns.length),NodeNew ns[i] G (0 + i * 4) w') → Calls Tryz.prog 45 #[.agg #[.slice (some ⟨G,0,none⟩) ns.length ns.length],BoxV a b c d e f] w' (fun e w'' => e = .returned (.tuple #[.int .i64 S,.bool bv]) ∧ Below w'.heap.size w' w''):=fun G w' hn => him G w' (fun i h => (hn i h).into)
    clear hsp him
    have heq:∀ G H (w':World),(∀ i (h:i < ns.length),NodeNew ns[i] G (0 + i * 4) w') → (∀ i (h:i < ns.length),NodeNew ns[i] H (0 + i * 4) w') → Calls Tryz.prog 19 #[.agg #[.slice (some ⟨G,0,none⟩) ns.length ns.length],.agg #[.slice (some ⟨H,0,none⟩) ns.length ns.length]] w' (fun e w'' => e = .returned (.bool true) ∧ Below w'.heap.size w' w'') :=
      fun G H w' h1 h2 => eq_shape ns hsm hnsm G H _ _ w' h1 h2
    clear hnsm hnum hns
    go_enter Tryz.func9,Tryz.ntmps9
    go_wp2_with fail
    have W1b:Below w.heap.size w ((w.alloc (.cells #[.slice bp ns.length cap] 24)).alloc (.cells #[.float .f32 a,.float .f32 b,.float .f32 c,.float .f32 d,.float .f32 e,.float .f32 f] 77)):=(by repeat' (first | exact Below.refl _ _ | exact Nat.le_refl _ | refine below_drewN ?_ _ | refine Below.alloc ?_ (by first | (simp;done) | (simp;omega)) _ | refine Below.setCell ?_ (by first | (simp;done) | (simp;omega)) _ | refine below_step ?_ (by assumption)))
    
    have hkept:Kept [(⟨w.heap.size,0,none⟩,.slice bp ns.length cap),(⟨w.heap.size + 1,0,none⟩,.float .f32 a),(⟨w.heap.size + 1,1,none⟩,.float .f32 b),(⟨w.heap.size + 1,2,none⟩,.float .f32 c),(⟨w.heap.size + 1,3,none⟩,.float .f32 d),(⟨w.heap.size + 1,4,none⟩,.float .f32 e),(⟨w.heap.size + 1,5,none⟩,.float .f32 f)] [] ((w.alloc (.cells #[.slice bp ns.length cap] 24)).alloc (.cells #[.float .f32 a,.float .f32 b,.float .f32 c,.float .f32 d,.float .f32 e,.float .f32 f] 77)):=by
      simp only [Kept,List.forall_mem_append,List.forall_mem_cons,List.not_mem_nil,false_implies,implies_true,and_true,true_and];(first | (go_simp;done) | (simp [World.cell?,World.frozen?,World.alloc,Array.getElem?_push];done))
    generalize (w.alloc (.cells #[.slice bp ns.length cap] 24)).alloc (.cells #[.float .f32 a,.float .f32 b,.float .f32 c,.float .f32 d,.float .f32 e,.float .f32 f] 77) = W1 at *
    refine (hsz _ W1b).mono ?_
    rintro _ w2 ⟨rfl,hb2⟩
    have W2b:=below_step W1b hb2
    have hkept:=keep hkept hb2
    clear hb2 W1b hsz
    go_upto_region 5 with fail
    refine Qg.wp_gd_all (by kernel_rfl) (by kernel_rfl) (PhiSg ns.length bv S) (GdL ns w2 [18] [] 1000 (fun _ => True)) [] (gdl_lasts ..) (gdl_start (by intro d hd;simp at hd;rcases hd with rfl | rfl | rfl <;> rfl) rfl) ?_
    intro hC0
    repeat (first
      | (refine Qg.walk_step fun K hK => ?_;apply Qg.one_det hC0 (by intro d hd;cases hd;decide) rfl;(focus (intro w' hw';have HK:=keep hkept hw';simp only [Kept,List.forall_mem_append,List.forall_mem_cons,List.not_mem_nil,false_implies,implies_true,and_true,true_and] at HK;go_simp;first | done | rfl));(focus (intro w' hw' hs;exact gdl_no (by decide) (by decide) (by decide)));go_simp;refine hK _ ?_;clear hK K)
      | (refine Qg.walk_step fun K hK => ?_;apply Qg.one_call _ _ hC0 (by intro d hd;cases hd;decide) rfl;(focus (intro w' hw';go_simp;first | done | exact ⟨rfl,rfl⟩));(focus (apply Exists.intro;(constructor <;> exact (0:Nat))));(focus (intro w' hw' hs; go_at_call 15;(refine (hto _ (below_step W2b hw')).mono ?_);rintro _ wA ⟨G,rfl,hnew,hG,hb1⟩;exact ⟨_,rfl,PhiSg.shape _ _,gdl_shape hnew (by decide) (by decide),below_step hw' hb1,hb1⟩ ));intro v hv;cases hv;go_simp;refine hK _ ?_;clear hK K)
      | (refine Qg.walk_step fun K hK => ?_;apply Qg.one_call _ _ hC0 (by intro d hd;cases hd;decide) rfl;(focus (intro w' hw';go_simp;first | done | exact ⟨rfl,rfl⟩));(focus (apply Exists.intro;(constructor <;> exact (0:Nat))));(focus (intro w' hw' hs; go_at_call 41;refine (to_box _ _ _ _ _ _ _).mono ?_;rintro _ wA ⟨rfl,hb1⟩;exact ⟨_,rfl,PhiSg.box _ _ _ _ _ _,gdl_no (by decide) (by decide) (by decide),below_step hw' hb1,hb1⟩ ));intro v hv;cases hv;go_simp;refine hK _ ?_;clear hK K)
      | (refine Qg.walk_step fun K hK => ?_;apply Qg.one_call _ _ hC0 (by intro d hd;cases hd;decide) rfl;(focus (intro w' hw';go_simp;first | done | exact ⟨rfl,rfl⟩));(focus (apply Exists.intro;(constructor <;> exact (0:Nat))));(focus (intro w' hw' hs; go_at_call 44;refine (hspec _ _ ((hs 18 (of_decide_eq_true (by kernel_rfl))).1 (by decide) _ rfl)).mono ?_;rintro _ wA ⟨rfl,hb1⟩;exact ⟨_,rfl,PhiSg.spec _,gdl_no (by decide) (by decide) (by decide),below_step hw' hb1,hb1⟩ ));intro v hv;cases hv;go_simp;refine hK _ ?_;clear hK K))
    refine Qg.walk_nil fun w6 hw6 hE => ?_
    clear hE hC0
    have hkept:=keep hkept hw6
    have W7b:=below_step W2b hw6
    have hK:=hkept;simp only [Kept,List.forall_mem_append,List.forall_mem_cons,List.not_mem_nil,false_implies,implies_true,and_true,true_and] at hK
    go_upto_region 7 with (go_at_call 15;refine (hto _ W7b).mono ?_;rintro _ wA ⟨H,rfl,hnew,hH,hb1⟩)
    have hb7:Below wA.heap.size wA (wA.alloc (.cells #[.slice (some ⟨H,0,none⟩) ns.length ns.length] 33)):=(Below.refl _ _).alloc (Nat.le_refl _) _
    have hnew:∀ i (h:i < ns.length),NodeNew ns[i] H (0 + i * 4) (wA.alloc (.cells #[.slice (some ⟨H,0,none⟩) ns.length ns.length] 33)):=fun i h => (hnew i h).keep hb7
    have W8b:=below_step (below_step W7b hb1) hb7
    have hkept:=kept_app (keep (keep hkept hb1) hb7) (show Kept [(⟨wA.heap.size,0,none⟩,.slice (some ⟨H,0,none⟩) ns.length ns.length)] [] (wA.alloc (.cells #[.slice (some ⟨H,0,none⟩) ns.length ns.length] 33)) by simp only [Kept,List.forall_mem_append,List.forall_mem_cons,List.not_mem_nil,false_implies,implies_true,and_true,true_and];simp)
    clear hK hb1 hb7 W7b hH
    generalize wA.alloc (.cells #[.slice (some ⟨H,0,none⟩) ns.length ns.length] 33) = w8 at *
    refine Qg.wp_gd_all (by kernel_rfl) (by kernel_rfl) (PhiSg ns.length bv S) (GdL ns w8 [] [] 1000 (fun _ => True)) [] (gdl_lasts ..) (gdl_start (by intro d hd;simp at hd;rcases hd with rfl | rfl <;> rfl) rfl) ?_
    intro hC0
    repeat (first
      | (refine Qg.walk_step fun K hK => ?_;apply Qg.one_det hC0 (by intro d hd;cases hd;decide) rfl;(focus (intro w' hw';have HK:=keep hkept hw';simp only [Kept,List.forall_mem_append,List.forall_mem_cons,List.not_mem_nil,false_implies,implies_true,and_true,true_and] at HK;go_simp;first | done | rfl));(focus (intro w' hw' hs;exact gdl_no (by decide) (by decide) (by decide)));go_simp;refine hK _ ?_;clear hK K)
      | (refine Qg.walk_step fun K hK => ?_;apply Qg.one_call _ _ hC0 (by intro d hd;cases hd;decide) rfl;(focus (intro w' hw';go_simp;first | done | exact ⟨rfl,rfl⟩));(focus (apply Exists.intro;(constructor <;> exact (0:Nat))));(focus (intro w' hw' hs; go_at_call 41;refine (to_box _ _ _ _ _ _ _).mono ?_;rintro _ wA ⟨rfl,hb1⟩;exact ⟨_,rfl,PhiSg.box _ _ _ _ _ _,gdl_no (by decide) (by decide) (by decide),below_step hw' hb1,hb1⟩ ));intro v hv;cases hv;go_simp;refine hK _ ?_;clear hK K)
      | (refine Qg.walk_step fun K hK => ?_;apply Qg.one_call _ _ hC0 (by intro d hd;cases hd;decide) rfl;(focus (intro w' hw';go_simp;first | done | exact ⟨rfl,rfl⟩));(focus (apply Exists.intro;(constructor <;> exact (0:Nat))));(focus (intro w' hw' hs; go_at_call 45;refine (himpl _ _ (fun i h => (hnew i h).keep hw')).mono ?_;rintro _ wA ⟨rfl,hb1⟩;exact ⟨_,rfl,PhiSg.impl _,gdl_no (by decide) (by decide) (by decide),below_step hw' hb1,hb1⟩ ));intro v hv;cases hv;go_simp;refine hK _ ?_;clear hK K))
    refine Qg.walk_nil fun w10 hw10 hE => ?_
    clear hE
    have hkept:=keep hkept hw10
    have W10b:=below_step W8b hw10
    have hnew10:∀ i (h:i < ns.length),NodeNew ns[i] H (0 + i * 4) w10:=fun i h => (hnew i h).keep hw10
    clear hw10 hC0 hnew
    have hK:=hkept;simp only [Kept,List.forall_mem_append,List.forall_mem_cons,List.not_mem_nil,false_implies,implies_true,and_true,true_and] at hK
    have hRR:(bv != bv) = false:=by simp
    have hSS:(S != S) = false:=by simp
    go_upto_region 10 with fail
    clear hK
    refine Qg.wp_gd_all (by kernel_rfl) (by kernel_rfl) (PhiSg ns.length bv S) (GdL ns w10 [43] [] 1000 (fun _ => True)) [] (gdl_lasts ..) (gdl_start (by intro d hd;simp at hd;rcases hd with rfl | rfl <;> rfl) rfl) ?_
    intro hC0
    repeat (first
      | (refine Qg.walk_step fun K hK => ?_;apply Qg.one_det hC0 (by intro d hd;cases hd;decide) rfl;(focus (intro w' hw';have HK:=keep hkept hw';simp only [Kept,List.forall_mem_append,List.forall_mem_cons,List.not_mem_nil,false_implies,implies_true,and_true,true_and] at HK;go_simp;first | done | rfl));(focus (intro w' hw' hs;exact gdl_no (by decide) (by decide) (by decide)));go_simp;refine hK _ ?_;clear hK K)
      | (refine Qg.walk_step fun K hK => ?_;apply Qg.one_call _ _ hC0 (by intro d hd;cases hd;decide) rfl;(focus (intro w' hw';go_simp;first | done | exact ⟨rfl,rfl⟩));(focus (apply Exists.intro;(constructor <;> exact (0:Nat))));(focus (intro w' hw' hs; go_at_call 15;(refine (hto _ (below_step W10b hw')).mono ?_);rintro _ wA ⟨G,rfl,hnew,hG,hb1⟩;exact ⟨_,rfl,PhiSg.shape _ _,gdl_shape hnew (by decide) (by decide),below_step hw' hb1,hb1⟩ ));intro v hv;cases hv;go_simp;refine hK _ ?_;clear hK K)
      | (refine Qg.walk_step fun K hK => ?_;apply Qg.one_call _ _ hC0 (by intro d hd;cases hd;decide) rfl;(focus (intro w' hw';go_simp;first | done | exact ⟨rfl,rfl⟩));(focus (apply Exists.intro;(constructor <;> exact (0:Nat))));(focus (intro w' hw' hs; go_at_call 19;refine (heq _ _ _ (fun i h => (hnew10 i h).keep hw') ((hs 43 (of_decide_eq_true (by kernel_rfl))).1 (by decide) _ rfl)).mono ?_;rintro _ wA ⟨rfl,hb1⟩;exact ⟨_,rfl,PhiSg.eqs _,gdl_no (by decide) (by decide) (by decide),below_step hw' hb1,hb1⟩ ));intro v hv;cases hv;go_simp;refine hK _ ?_;clear hK K))
    refine Qg.walk_nil fun w11 hw11 hE => ?_
    have W11b:=below_step W10b hw11
    clear hE
    go_wp2_with fail
    go_ret
    exact ⟨rfl,W11b⟩
open Go.ChangeShapes Go.WideShapes Go.ChangeAt
set_option maxRecDepth 100000 in
theorem lifted_sign_in_holds (os:Os) (started:os.Started) (H:Type) (enc:TypeId × Value → H) :
    ReturnsInHanded {} Tryz.checked os 9 .any (Rows.fnExactSignInSpec.pre6 enc Tryz.prog Tryz.f9 Rows.fnExactSignInRow.domain false) (Rows.fnExactSignInSpec.post enc Tryz.prog Tryz.f9 false true false false):=by
  refine returnsInHanded_of_change (C:=Tryz.checked) own_knob started (by kernel_rfl) Tryz.func9
    (ChangeSpec.witness6 (enc:=enc) (C:=Tryz.checked) false ⟨#[],#[.agg #[.slice none 0 0],.agg #[.float .f32 0,.float .f32 0,.float .f32 0,.float .f32 0,.float .f32 0,.float .f32 0]],[]⟩ 12 (by kernel_rfl) (by kernel_rfl) (by kernel_rfl) (by kernel_rfl)) ?_
  intro W base args ds gs before hval0 hW hcnd _
  have hval:∀ (j:Nat) t v,Tryz.f9.params[j]? = some t → args[j]? = some v → Value.okWide Tryz.prog W .any base t v:=hval0
  have hW':=hW
  obtain ⟨p,q,hA0,hV,rfl,hfz,hnd⟩:=hW
  have hA:DataW.TrodAll enc Tryz.prog W 0 (fun _ => true) true Tryz.f9.params.toList args.toList ds p:=hA0
  rw [Tryz.params9] at hA hval
  obtain ⟨v0,v1,d0,d1,p0,p1,rfl,rfl,rfl,h0,h1⟩:=trodAll_2 hA
  obtain ⟨rfl,rfl⟩:=trodVars_none hV
  obtain ⟨ns,bp,nb,no,cap,rfl,hns⟩:=open_shape (hval 0 24 v0 rfl rfl) h0
  obtain ⟨a,b,c,d,e,f,rfl⟩:=open_box (hval 1 77 v1 rfl rfl) h1
  clear hA0 hval0
  simp only [List.append_nil] at hW'
  have hlt:∀ m ∈ p0 ++ (p1),m.block < W.heap.size:=fun m hm => hW'.lt m hm
  refine (law_signin ns bp nb no cap a b c d e f W hns).mono fun e W' ⟨he,hg⟩ => ?_
  subst he
  have m0:∀ m ∈ p0,m ∈ p0 ++ (p1):=fun m h => by simp [h]
  have m1:∀ m ∈ p1,m ∈ p0 ++ (p1):=fun m h => by simp [h]
  refine ⟨_,rfl,post_below (pa:=p0 ++ (p1 ++ [])) (pv:=[]) hW' (fun _ _ _ => (trodAll_cons_mk (shut_bool Tryz.underlying4 _) trodAll_mk0)) (fun sp hsp => ?_) (fun _ _ => rfl) (by simp) hg (ok_one (by kernel_rfl) rfl (okWide_bool_mk Tryz.underlying4 _))⟩
  refine trodAll_cons_mk (WideElems.Trod_stays laid_out (by kernel_rfl) (of_decide_eq_true (by kernel_rfl)) h0 (fun m hm => hg.same (hlt m (m0 m hm))) (fun m hm => hsp m (m0 m hm))) ?_
  exact trodAll_cons_mk (WideElems.Trod_stays laid_out (by kernel_rfl) (of_decide_eq_true (by kernel_rfl)) h1 (fun m hm => hg.same (hlt m (m1 m hm))) (fun m hm => hsp m (m1 m hm))) trodAll_mk0

set_option maxRecDepth 100000 in
theorem sign_in_holds:Rows.FnExactSignInSaid :=
  OpenClaim.holds_of_wide 9 Tryz.f9 rfl rfl rfl rfl rfl rfl rfl ⟨rfl,rfl,rfl,rfl,rfl⟩ rfl rfl rfl rfl rfl (by kernel_rfl) Tryz.func9 (by kernel_rfl)
    (of_decide_eq_true (by kernel_rfl)) (by unfold Func.isWrapper;first | (rw [if_pos (by decide +kernel)];kernel_rfl) | (rw [if_neg (by decide +kernel)];exact ⟨rfl,rfl⟩))
    (fun os started H enc _ => lifted_sign_in_holds os started H enc)
end Go.Proofs.YtdbpgblhnhdhoaaGreat
