/-
 Lemmas: B6,B7.
-/
import Derived.Test.YtbiacfkiakddiaaGreatMcf
import Derived.Test.YtbiacfkiakddiaaGreatMch
set_option linter.unusedVariables false
set_option linter.unusedSimpArgs false
namespace Go.Proofs.YtbiacfkiakddiaaGreat
open Go.RowKit Go.Fl
/-- Both halves of a box are right. -/
def bothOk (half:Nat → Nat) (b:Bx):Bool:=boxOk (splitP half b).1 && boxOk (splitP half b).2
/-- The boxes that are left after the rounds;none where a half is not right. -/
def surf (half:Nat → Nat) (sg:Bx → Int):Nat → List Bx → Option (List Bx)
 | 0,l => some (l.filter fun b => sg b == 0)
 | k + 1,l => if (l.filter fun b => sg b == 0).all (bothOk half) then surf half sg k (halves half (l.filter fun b => sg b == 0)) else none

theorem half_fun:halfF = halfS:=funext half_same

/-- Of right boxes both checks say the same. -/
theorem all_both {half:Nat → Nat}:∀ {l:List Bx},(∀ b ∈ l,boxOk b = true) → l.all (halfOk half) = l.all (bothOk half)
 | [],_ => rfl
 | b :: l,h => by
  rw [List.all_cons,List.all_cons,all_both fun c hc => h c (List.mem_cons_of_mem _ hc)]
  unfold halfOk bothOk
  rw [h b List.mem_cons_self,Bool.true_and]
theorem halves_ok {half:Nat → Nat} {l:List Bx} (h:l.all (bothOk half) = true):∀ b ∈ halves half l,boxOk b = true:=by
 intro b hb
 obtain ⟨a,ha,hb⟩:=List.mem_flatMap.1 hb
 have h1:=List.all_eq_true.1 h a ha
 unfold bothOk at h1
 rw [Bool.and_eq_true] at h1
 simp only [List.mem_cons,List.not_mem_nil,or_false] at hb
 rcases hb with rfl | rfl
 ·exact h1.1
 ·exact h1.2
theorem halves_len (half:Nat → Nat):∀ l:List Bx,(halves half l).length = 2 * l.length
 | [] => rfl
 | b :: l => by
  have:halves half (b :: l) = (splitP half b).1 :: (splitP half b).2 :: halves half l:=rfl
  rw [this]
  simp only [List.length_cons,halves_len half l]
  omega

theorem surf_same {sg sg':Bx → Int} (h:∀ b,boxOk b = true → sg b = sg' b):∀ (k:Nat) (l:List Bx),(∀ b ∈ l,boxOk b = true) → surf halfF sg k l = surf halfS sg' k l:=by
 have hf:∀ l:List Bx,(∀ b ∈ l,boxOk b = true) → (l.filter fun b => sg b == 0) = l.filter fun b => sg' b == 0:=fun l hl =>
  List.filter_congr fun b hb => by rw [h b (hl b hb)]
 intro k
 rw [half_fun]
 induction k with
 | zero => intro l hl;unfold surf;rw [hf l hl]
 | succ k ih =>
  intro l hl
  unfold surf
  rw [hf l hl]
  by_cases ha:(l.filter fun b => sg' b == 0).all (bothOk halfS) = true
  ·rw [if_pos ha,if_pos ha]
   exact ih _ (halves_ok ha)
  ·rw [if_neg ha,if_neg ha]

/-- A row that is owned above a bound is owned above a lower one. -/
theorem row_base {w:World} {lo lo':Nat} {e:TypeId} {size n:Nat} {v:Value} {xs:List Value} (h:w.ownsRow lo e size v n xs) (hl:lo' ≤ lo):w.ownsRow lo' e size v n xs:=by
 obtain ⟨h1,h2 | ⟨g,cap,cur,hv,hb,r⟩⟩:=h
 ·exact ⟨h1,.inl h2⟩
 ·exact ⟨h1,.inr ⟨g,cap,cur,hv,Nat.le_trans hl hb,r⟩⟩
/-- A row of boxes can be read. -/
theorem row_boxes {w:World} {lo n:Nat} {v:Value} {bs:List Bx} (h:w.ownsRow lo 40 6 v n (fb bs)) (hn:n = bs.length):∃ p g cap,v = .slice p bs.length cap ∧ (bs ≠ [] → p = some ⟨g,0,none⟩) ∧ BxsIn bs g 0 w:=by
 subst hn
 rcases row_form h with ⟨rfl,h0⟩ | ⟨g,cap,rfl,_,_⟩
 ·exact ⟨none,0,0,by rw [h0],fun hne => absurd (List.length_eq_zero_iff.1 h0) hne,fun i hi => by omega⟩
 ·refine ⟨_,g,cap,rfl,fun _ => rfl,fun i hi j u hu => ?_⟩
  have hj:=b6_get hu
  have:=h.cellAt (i * 6 + j) (by omega)
  obtain ⟨g0,g1,g2,g3,g4,g5⟩:=fb_get bs i hi
  rw [show 0 + i * 6 + j = i * 6 + j by omega]
  have hc:(fb bs)[i * 6 + j]? = some u:=by
   rcases (show j = 0 ∨ j = 1 ∨ j = 2 ∨ j = 3 ∨ j = 4 ∨ j = 5 by omega) with rfl | rfl | rfl | rfl | rfl | rfl <;> (injection hu with hu;subst hu;assumption)
  rw [hc] at this
  simpa using this
end Go.Proofs.YtbiacfkiakddiaaGreat

namespace Go.Proofs.YtbiacfkiakddiaaGreat
open Go.RowKit Go.Fl
def surfOk (v:Bool) (b:Bx) (s:Int):Bool:=v && boxOk b && decide (0 ≤ s ∧ s ≤ 6)
/-- A box's sign by the ranges of a shape's nodes. -/
def sgF (ns:List PN) (b:Bx):Int:=signP (topR (rangesF ns ((b.1.1,b.2.1),(b.1.2.1,b.2.2.1),(b.1.2.2,b.2.2.2))) ns.length)
/-- A list of boxes comes back,or none. -/
def RetSu (R:Option (List Bx)) (w:World) (e:Ending) (w':World):Prop :=
 ∃ v bs,e = .returned (.tuple #[v,.bool R.isSome]) ∧ (R = none → v = .slice none 0 0) ∧ (∀ L,R = some L → w'.ownsRow w.heap.size 40 6 v bs.length (fb bs) ∧ bs.map cnb = L) ∧ Below w.heap.size w w'
theorem retSu_no {R:Option (List Bx)} {w w':World} (h:R = none) (hb:Below w.heap.size w w'):RetSu R w (.returned (.tuple #[.slice none 0 0,.bool false])) w':=by
 subst h
 exact ⟨_,[],rfl,fun _ => rfl,fun L hL => (by cases hL),hb⟩


set_option maxRecDepth 100000 in
set_option maxHeartbeats 8000000 in
theorem surface_any (ns:List PN) (hnum:∀ n ∈ ns,n.nums.length < 10000000) (nb no cap a b c d e f:Nat) (s:Int) (bp:Option Addr) (w:World) (hbp:ns ≠ [] → bp = some ⟨nb,no,none⟩) (hsh:∀ i (h:i < ns.length),NodeIn ns[i] nb (no + i * 4) w) (hlen:ns.length < 10000000) :
  Calls Tryz.prog 24 #[.agg #[.slice bp ns.length cap],BoxV a b c d e f,.int .i64 s] w (RetSu (if surfOk (validF ns) (cnB a b c d e f) s then surf halfF (sgF ns) s.toNat [cnB a b c d e f] else none) w):=by
 obtain ⟨R,hR⟩:∃ R,Hid (R = if surfOk (validF ns) (cnB a b c d e f) s then surf halfF (sgF ns) s.toNat [cnB a b c d e f] else none):=⟨_,rfl⟩
 rw [← hR.out]
 go_enter Tryz.func24,Tryz.ntmps24
 go_upto_region 1 with fail
 generalize hW:(w.alloc (.cells #[.slice bp ns.length cap] 36)).alloc (.cells #[F1 a,F1 b,F1 c,F1 d,F1 e,F1 f] 40) = W1 at *
 have W1b:Below w.heap.size w W1:=by subst hW;exact (by repeat' (first | exact Below.refl _ _ | exact Nat.le_refl _ | refine below_drewN ?_ _ | refine Below.alloc ?_ (by simp <;> omega) _ | refine Below.setCell ?_ (by simp <;> omega) _ | refine below_step ?_ (by assumption)))
 have hkept:Kept [(⟨w.heap.size,0,none⟩,.slice bp ns.length cap),(⟨w.heap.size + 1,0,none⟩,F1 a),(⟨w.heap.size + 1,1,none⟩,F1 b),(⟨w.heap.size + 1,2,none⟩,F1 c),(⟨w.heap.size + 1,3,none⟩,F1 d),(⟨w.heap.size + 1,4,none⟩,F1 e),(⟨w.heap.size + 1,5,none⟩,F1 f)] [] W1:=by
  subst hW;simp only [Kept,ka,kb,kc,kd,ke,kf,kg];(first | (go_simp;done) | (simp [World.cell?,World.frozen?,World.alloc,Array.getElem?_push];done))
 clear hW
 have hv:=valid_any ns hnum nb no cap bp W1 hbp (fun i h => (hsh i h).keep W1b) hlen
 have hK:=hkept;simp only [Kept,ka,kb,kc,kd,ke,kf,kg] at hK
 cases hval:validF ns
 ·have hno:R = none:=by rw [hR.out,hval];rfl
  go_wp2_with (go_at_call 65;refine hv.mono ?_;rintro _ w2 ⟨rfl,hb1⟩;have W1b:=below_step W1b hb1;have hkept:=keepT hkept hb1 rfl;clear hK;have hK:=hkept;simp only [Kept,ka,kb,kc,kd,ke,kf,kg] at hK;rw [hval])
  exact bodyPost_ret (v:=.tuple #[.slice none 0 0,.bool false]) (by simp [results,Tryz.results24,go_sem];first | done | (rfl;done) | (repeat' constructor)) rfl (retSu_no hno W1b)
 cases hbx:boxP (cn .f32 a,cn .f32 b,cn .f32 c) (cn .f32 d,cn .f32 e,cn .f32 f)
 ·have hno:R = none:=by rw [hR.out];unfold surfOk;rw [show boxOk (cnB a b c d e f) = false from hbx];simp
  go_wp2_with (first | (go_at_call 65;refine hv.mono ?_;rintro _ w2 ⟨rfl,hb1⟩;have W1b:=below_step W1b hb1;have hkept:=keepT hkept hb1 rfl;clear hK;have hK:=hkept;simp only [Kept,ka,kb,kc,kd,ke,kf,kg] at hK;rw [hval]) | (go_at_call 66;refine (box_any _ _ _ _ _ _ _).mono ?_;rintro _ w3 ⟨rfl,hb1⟩;have W1b:=below_step W1b hb1;have hkept:=keepT hkept hb1 rfl;clear hK;have hK:=hkept;simp only [Kept,ka,kb,kc,kd,ke,kf,kg] at hK;rw [hbx]))
  exact bodyPost_ret (v:=.tuple #[.slice none 0 0,.bool false]) (by simp [results,Tryz.results24,go_sem];first | done | (rfl;done) | (repeat' constructor)) rfl (retSu_no hno W1b)
 cases hin:(decide (0 ≤ s) && decide (s ≤ 6))
 ·have hno:R = none:=by
   rw [hR.out,if_neg]
   unfold surfOk
   intro h
   simp only [Bool.and_eq_true,decide_eq_true_eq] at h
   rw [Bool.and_eq_false_iff] at hin
   simp only [decide_eq_false_iff_not] at hin
   omega
  go_wp2_with (first | (go_at_call 65;refine hv.mono ?_;rintro _ w2 ⟨rfl,hb1⟩;have W1b:=below_step W1b hb1;have hkept:=keepT hkept hb1 rfl;clear hK;have hK:=hkept;simp only [Kept,ka,kb,kc,kd,ke,kf,kg] at hK;rw [hval]) | (go_at_call 66;refine (box_any _ _ _ _ _ _ _).mono ?_;rintro _ w3 ⟨rfl,hb1⟩;have W1b:=below_step W1b hb1;have hkept:=keepT hkept hb1 rfl;clear hK;have hK:=hkept;simp only [Kept,ka,kb,kc,kd,ke,kf,kg] at hK;rw [hbx]) | (go_at_call 74;refine (in_any _ _ _ _).mono ?_;rintro _ w4 ⟨rfl,rfl⟩;rw [hin]))
  exact bodyPost_ret (v:=.tuple #[.slice none 0 0,.bool false]) (by simp [results,Tryz.results24,go_sem];first | done | (rfl;done) | (repeat' constructor)) rfl (retSu_no hno W1b)
 go_upto_region 3 with (first | (go_at_call 65;refine hv.mono ?_;rintro _ w2 ⟨rfl,hb1⟩;have W1b:=below_step W1b hb1;have hkept:=keepT hkept hb1 rfl;clear hK;have hK:=hkept;simp only [Kept,ka,kb,kc,kd,ke,kf,kg] at hK;rw [hval]) | (go_at_call 66;refine (box_any _ _ _ _ _ _ _).mono ?_;rintro _ w3 ⟨rfl,hb1⟩;have W1b:=below_step W1b hb1;have hkept:=keepT hkept hb1 rfl;clear hK;have hK:=hkept;simp only [Kept,ka,kb,kc,kd,ke,kf,kg] at hK;rw [hbx]) | (go_at_call 74;refine (in_any _ _ _ _).mono ?_;rintro _ w4 ⟨rfl,rfl⟩;rw [hin]))
 have hs:0 ≤ s ∧ s ≤ 6:=by
  rw [Bool.and_eq_true,decide_eq_true_eq,decide_eq_true_eq] at hin
  exact hin
 obtain ⟨N,rfl⟩:=Int.eq_ofNat_of_zero_le hs.1
 have hN:N ≤ 6:=by omega
 have hRs:Hid (R = surf halfF (sgF ns) N [cnB a b c d e f]):=by
  unfold Hid
  rw [hR.out,if_pos (by unfold surfOk;rw [hval,show boxOk (cnB a b c d e f) = true from hbx];simp;omega)]
  rfl
 obtain ⟨hl,hok⟩:=valid_ok hval
 have hne:ns ≠ []:=by intro h;rw [h] at hl;simp at hl
 have hb:=hbp hne
 subst hb
 have hsh3:ShapeIn ns w.heap.size 0 nb no cap w3:=⟨by simp [hK],fun i h => (hsh i h).keep W1b⟩
 clear hR hs hin hv hnum hbp hsh
 go_wp2_with fail
 go_loopw [8,32] (fun v i wr => ∃ (k:Nat) (bs:List Bx),k ≤ N ∧ i = .int .i64 (k:Int) ∧ w3.heap.size ≤ wr.heap.size ∧ wr.ownsRow w3.heap.size 40 6 v bs.length (fb bs) ∧ bs.length ≤ 2 ^ k ∧ (∀ x ∈ bs,boxOk (cnb x) = true) ∧ R = surf halfF (sgF ns) (N - k) (bs.map cnb) ∧ Below w3.heap.size w3 wr) (fun _ i _ => N + 1 - (intOf i).toNat)
 case atStart => exact ⟨0,[((a,b,c),d,e,f)],by omega,rfl,by simp,World.ownsRow_lit w3 #[F1 a,F1 b,F1 c,F1 d,F1 e,F1 f] 1 (Nat.le_refl _) (by unfold maxLen;omega) rfl,by simp,(fun x hx => by simp at hx;subst hx;exact hbx),hRs.out,(Below.refl _ _).alloc (Nat.le_refl _) _⟩
 case round =>
  obtain ⟨k,bs,hk,rfl,hsz,hown,hbl,hbk,hRk,Wb⟩:=hrel
  obtain ⟨p,g,cp,rfl,hpg,hBx⟩:=row_boxes hown rfl
  have hk':(k:Int) < (N:Int) + 1:=by omega
  have hk0:(0:Int) ≤ (k:Int):=by omega
  have hpos:(0:Int) ≤ (bs.length:Int):=by omega
  have h2k:2 ^ k ≤ 2 ^ 6:=Nat.pow_le_pow_right (by decide) (by omega)
  have h64:bs.length ≤ 64:=by omega
  rename World => wo
  go_wp2_with fail
  go_loopw [10,38] (fun v i wr => ∃ (m:Nat) (out:List Bx),m ≤ bs.length ∧ i = .int .i64 (m:Int) ∧ wo.heap.size ≤ wr.heap.size ∧ wr.ownsRow wo.heap.size 40 6 v out.length (fb out) ∧ out.length ≤ m ∧ out.map cnb = ((bs.take m).map cnb).filter (fun b => sgF ns b == 0) ∧ Below wo.heap.size wo wr) (fun _ i _ => bs.length - (intOf i).toNat)
  case atStart => exact ⟨0,[],by omega,rfl,by simp,World.ownsRow_lit wo #[] 0 (Nat.le_refl _) (by unfold maxLen;omega) rfl,by simp,rfl,(Below.refl _ _).alloc (Nat.le_refl _) _⟩
  case round =>
   obtain ⟨m,out,hm,rfl,hsz2,hown2,hol,hom,Wb2⟩:=hrel
   by_cases hlt:m < bs.length
   ·have hlt':(m:Int) < (bs.length:Int):=by omega
    have h0:(0:Int) ≤ (m:Int):=by omega
    have hpe:=hpg (by intro h;rw [h] at hlt;simp at hlt)
    subst hpe
    have hb:=(hBx.keep Wb2) m hlt
    obtain ⟨⟨⟨a,b,c⟩,d,e,f⟩,hbx2⟩:∃ x,x = bs[m]:=⟨_,rfl⟩
    rw [← hbx2] at hb
    have c0:=hb 0 _ rfl
    have c1:=hb 1 _ rfl
    have c2:=hb 2 _ rfl
    have c3:=hb 3 _ rfl
    have c4:=hb 4 _ rfl
    have c5:=hb 5 _ rfl
    simp only [Nat.add_zero,Nat.zero_add] at c0 c1 c2 c3 c4 c5
    clear hb
    have hsg:∀ w',ShapeIn ns w.heap.size 0 nb no cap w' → Calls Tryz.prog 75 #[.pointer (some ⟨w.heap.size,0,none⟩),BoxV a b c d e f] w' (RetSg (sgF ns (cnB a b c d e f)) w'):=fun w' h => sign_any ns hok ⟨hl.1,by omega⟩ w.heap.size 0 nb no cap a b c d e f w' h
    obtain ⟨sg,hsg2⟩:∃ sg,Hid (sg = sgF ns (cnB a b c d e f)):=⟨_,rfl⟩
    rw [← hsg2.out] at hsg
    have hbc:Hid (cnb bs[m] = cnB a b c d e f):=by unfold Hid;rw [← hbx2];rfl
    have hnext:Hid (((bs.take (m + 1)).map cnb).filter (fun b => sgF ns b == 0) = out.map cnb ++ (if sg = 0 then [cnB a b c d e f] else [])):=by
     unfold Hid
     rw [(List.take_append_getElem hlt).symm,List.map_append,List.filter_append,← hom]
     congr 1
     simp only [List.map_cons,List.map_nil,List.filter_cons,List.filter_nil]
     rw [hbc.out,← hsg2.out]
     by_cases h0:sg = 0
     ·rw [h0];rfl
     ·rw [if_neg h0,if_neg (by simpa using h0)]
    have hsh5:=hsh3.keep (below_step Wb Wb2)
    have hsh6:=hsh5.keep (show Below wr.heap.size wr (wr.alloc (.cells #[F1 a,F1 b,F1 c,F1 d,F1 e,F1 f] 40)) from (Below.refl _ _).alloc (Nat.le_refl _) _)
    have hsz3:w3.heap.size ≤ wr.heap.size:=Nat.le_trans hsz hsz2
    clear hsh3 hsh5 hBx
    go_upto_region 11 with fail
    have Wb4:Below wo.heap.size wo (wr.alloc (.cells #[F1 a,F1 b,F1 c,F1 d,F1 e,F1 f] 40)):=Wb2.alloc hsz2 _
    have hown4:(wr.alloc (.cells #[F1 a,F1 b,F1 c,F1 d,F1 e,F1 f] 40)).ownsRow wo.heap.size 40 6 u10 out.length (fb out):=hown2.alloc _
    have hp4:Kept [(⟨wr.heap.size,0,none⟩,F1 a),(⟨wr.heap.size,1,none⟩,F1 b),(⟨wr.heap.size,2,none⟩,F1 c),(⟨wr.heap.size,3,none⟩,F1 d),(⟨wr.heap.size,4,none⟩,F1 e),(⟨wr.heap.size,5,none⟩,F1 f)] [] (wr.alloc (.cells #[F1 a,F1 b,F1 c,F1 d,F1 e,F1 f] 40)):=by simp only [Kept,ka,kb,kc,kd,ke,kf,kg];simp
    have hsz4:w3.heap.size ≤ (wr.alloc (.cells #[F1 a,F1 b,F1 c,F1 d,F1 e,F1 f] 40)).heap.size:=Nat.le_trans hsz3 (by simp)
    clear Wb2 hown2 c0 c1 c2 c3 c4 c5
    generalize wr.alloc (.cells #[F1 a,F1 b,F1 c,F1 d,F1 e,F1 f] 40) = w4 at *
    have hkept:=hp4
    clear hp4
    have hK:=hkept;simp only [Kept,ka,kb,kc,kd,ke,kf,kg] at hK
    have hws:wo.heap.size ≤ w4.heap.size:=Wb4.size
    by_cases hz:sg = 0
    ·subst hz
     go_wp2_with (first
      | (go_at_call 75;refine (hsg _ hsh6).mono ?_;rintro _ w5 ⟨rfl,hb1⟩;have Wb5:=below_step Wb4 hb1;have hown5:=owns_below hown4 hb1;have hsz5:=Nat.le_trans hsz4 hb1.size;have hkept:=keepT hkept hb1 rfl;clear hK;have hK:=hkept;simp only [Kept,ka,kb,kc,kd,ke,kf,kg] at hK)
      | (at_builtin;refine wp_appB wo.heap.size rfl (.tmp 45) (.tmp 47) rfl _ _ out rfl (hown5.alloc _) w5.heap.size 1 ((a,b,c),d,e,f) (by first | rfl | simp) ?_ (by omega) (by have:=Wb5.size;simp;omega) ?_;rotate_left 1;intro v5 w6 hown6 hg6))
     rotate_left
     ·intro j u hu
      have hj:=b6_get hu
      rcases (show j = 0 ∨ j = 1 ∨ j = 2 ∨ j = 3 ∨ j = 4 ∨ j = 5 by omega) with rfl | rfl | rfl | rfl | rfl | rfl <;> (injection hu with hu;subst hu;exact box_new (by simp) _ _ _ _ rfl)
     refine ⟨⟨m + 1,out ++ [((a,b,c),d,e,f)],by omega,by simp,?_,by simpa using hown6,by simp;omega,?_,grown_below (Wb5.alloc Wb5.size _) (hown5.alloc _) hg6 (Nat.le_refl _)⟩,by simp [intOf];omega⟩
     ·exact Nat.le_trans Wb5.size (by have:=hg6.size;simp at this ⊢;omega)
     ·rw [hnext.out,List.map_append];simp;rfl
    ·have hz2:(sg == 0) = false:=by simpa using hz
     go_wp2_with (go_at_call 75;refine (hsg _ hsh6).mono ?_;rintro _ w5 ⟨rfl,hb1⟩;have Wb5:=below_step Wb4 hb1;have hown5:=owns_below hown4 hb1;have hsz5:=Nat.le_trans hsz4 hb1.size;have hkept:=keepT hkept hb1 rfl;clear hK;have hK:=hkept;simp only [Kept,ka,kb,kc,kd,ke,kf,kg] at hK)
     exact ⟨⟨m + 1,out,by omega,by simp,Wb5.size,hown5,by omega,by rw [hnext.out,if_neg hz,List.append_nil],Wb5⟩,by simp [intOf];omega⟩
   ·obtain rfl:m = bs.length:=by omega
    have hom2:out.map cnb = (bs.map cnb).filter (fun b => sgF ns b == 0):=by rw [hom,List.take_of_length_le (Nat.le_refl _)]
    have hout:∀ x ∈ out.map cnb,boxOk x = true:=by
     rw [hom2]
     intro x hx
     obtain ⟨y,hy,rfl⟩:=List.mem_map.1 (List.mem_filter.1 hx).1
     exact hbk y hy
    have W2b:=below_step Wb Wb2
    have hsz3:w3.heap.size ≤ wr.heap.size:=Nat.le_trans hsz hsz2
    have hws:w.heap.size ≤ w3.heap.size:=W1b.size
    clear hom hBx hown hlt
    by_cases hkN:k = N
    ·subst hkN
     have hRk2:R = some (out.map cnb):=by rw [hRk,Nat.sub_self,surf,hom2]
     clear hRk hRs
     have hown3:=Lib.hid hown2
     clear hown2
     go_wp2_with fail
     exact bodyPost_ret (v:=.tuple #[u10,.bool true]) (by simp [results,Tryz.results24,go_sem];first | done | (rfl;done) | (repeat' constructor)) rfl ⟨u10,out,by rw [hRk2];rfl,fun h => (by rw [hRk2] at h;cases h),fun L hL => ⟨row_base hown3.out (Nat.le_trans hws hsz),by rw [hRk2] at hL;injection hL⟩,below_step W1b W2b⟩
    ·have hkN':((k:Int) == (N:Int)) = false:=by rw [beq_eq_false_iff_ne];omega
     obtain ⟨p2,g2,cp2,rfl,hpg2,hBx2⟩:=row_boxes hown2 rfl
     have hsplit:=splitall_any out g2 0 cp2 p2 wr hpg2 hBx2 (by omega)
     obtain ⟨okb,hokb⟩:∃ okb,Hid (okb = out.all fun b => halfOk halfF (cnb b)):=⟨_,rfl⟩
     rw [← hokb.out] at hsplit
     have hsur:Hid (R = if okb then surf halfF (sgF ns) (N - k - 1) (halves halfF (out.map cnb)) else none):=by
      unfold Hid
      rw [hRk,show N - k = (N - k - 1) + 1 by omega,surf,← hom2,show okb = (out.map cnb).all (bothOk halfF) by rw [hokb.out,← all_both hout,List.all_map];rfl]
      rfl
     have hown3:=Lib.hid hown2
     clear hown2 hRk hRs hBx2
     cases okb
     ·go_wp2_with (go_at_call 76;refine hsplit.mono ?_;rintro _ w6 ⟨v6,bs6,rfl,hs6,hb6⟩)
      exact bodyPost_ret (v:=.tuple #[.slice none 0 0,.bool false]) (by simp [results,Tryz.results24,go_sem];first | done | (rfl;done) | (repeat' constructor)) rfl (retSu_no (by rw [hsur.out];rfl) (below_step W1b (below_step W2b hb6)))
     ·go_wp2_with (go_at_call 76;refine hsplit.mono ?_;rintro _ w6 ⟨v6,bs6,rfl,hs6,hb6⟩)
      obtain ⟨h7,h8⟩:=hs6 (by first | trivial | rfl)
      have hb6l:bs6.length = 2 * out.length:=by have:=congrArg List.length h8;rw [List.length_map,halves_len,List.length_map] at this;exact this
      refine ⟨⟨k + 1,bs6,by omega,by simp,Nat.le_trans hsz3 hb6.size,row_base h7 hsz3,by rw [Nat.pow_succ];omega,?_,?_,below_step W2b hb6⟩,by simp [intOf];omega⟩
      ·intro x hx
       refine halves_ok (l:=out.map cnb) ?_ (cnb x) (by rw [← h8];exact List.mem_map_of_mem hx)
       rw [← all_both hout,List.all_map];exact hokb.out.symm
      ·rw [hsur.out,h8,show N - (k + 1) = N - k - 1 by omega];rfl
end Go.Proofs.YtbiacfkiakddiaaGreat
