/-
 Lemmas: B8.
-/
import Derived.Test.YtbiacfkiakddiaaGreatMci
import Derived.Test.YtbiacfkiakddiaaGreatMcm
import Derived.Deep.CutRange
set_option linter.unusedVariables false
set_option linter.unusedSimpArgs false
namespace Go.Proofs.YtbiacfkiakddiaaGreat
open Go.RowKit Go.Fl
/-- A box's sign by the reference's ranges. -/
def sgS (ns:List PN) (b:Bx):Int:=signP (topR (rangesS ns ((b.1.1,b.2.1),(b.1.2.1,b.2.2.1),(b.1.2.2,b.2.2.2))) ns.length)


set_option maxRecDepth 100000 in
set_option maxHeartbeats 16000000 in
theorem s_surface_any (ns:List PN) (hnum:∀ n ∈ ns,n.nums.length < 10000000) (hvok:validS ns = true → OkAll ns) (nb no cap a b c d e f:Nat) (s:Int) (bp:Option Addr) (w:World) (hbp:ns ≠ [] → bp = some ⟨nb,no,none⟩) (hsh:∀ i (h:i < ns.length),NodeIn ns[i] nb (no + i * 4) w) (hlen:ns.length < 10000000) :
  Calls Tryz.prog 23 #[.agg #[.slice bp ns.length cap],BoxV a b c d e f,.int .i64 s] w (RetSu (if surfOk (validS ns) (cnB a b c d e f) s then surf halfS (sgS ns) s.toNat [cnB a b c d e f] else none) w):=by
 obtain ⟨R,hR⟩:∃ R,Hid (R = if surfOk (validS ns) (cnB a b c d e f) s then surf halfS (sgS ns) s.toNat [cnB a b c d e f] else none):=⟨_,rfl⟩
 rw [← hR.out]
 go_enter Tryz.func23,Tryz.ntmps23
 go_upto_region 1 with fail
 generalize hW:(w.alloc (.cells #[.slice bp ns.length cap] 36)).alloc (.cells #[F1 a,F1 b,F1 c,F1 d,F1 e,F1 f] 40) = W1 at *
 have W1b:Below w.heap.size w W1:=by subst hW;exact (by repeat' (first | exact Below.refl _ _ | exact Nat.le_refl _ | refine below_drewN ?_ _ | refine Below.alloc ?_ (by simp <;> omega) _ | refine Below.setCell ?_ (by simp <;> omega) _ | refine below_step ?_ (by assumption)))
 have hkept:Kept [(⟨w.heap.size,0,none⟩,.slice bp ns.length cap),(⟨w.heap.size + 1,0,none⟩,F1 a),(⟨w.heap.size + 1,1,none⟩,F1 b),(⟨w.heap.size + 1,2,none⟩,F1 c),(⟨w.heap.size + 1,3,none⟩,F1 d),(⟨w.heap.size + 1,4,none⟩,F1 e),(⟨w.heap.size + 1,5,none⟩,F1 f)] [] W1:=by
  subst hW;simp only [Kept,ka,kb,kc,kd,ke,kf,kg];(first | (go_simp;done) | (simp [World.cell?,World.frozen?,World.alloc,Array.getElem?_push];done))
 clear hW
 have hK:=hkept;simp only [Kept,ka,kb,kc,kd,ke,kf,kg] at hK
 have hv:=s_is_any ns hnum w.heap.size 0 nb no cap bp W1 (by simp [hK]) hbp (fun i h => (hsh i h).keep W1b) hlen
 cases hval:validS ns
 ·have hno:R = none:=by rw [hR.out,hval];rfl
  go_wp2_with (go_at_call 60;refine hv.mono ?_;rintro _ w2 ⟨rfl,hb1⟩;have W1b:=below_step W1b hb1;have hkept:=keepT hkept hb1 rfl;clear hK;have hK:=hkept;simp only [Kept,ka,kb,kc,kd,ke,kf,kg] at hK;rw [hval])
  exact bodyPost_ret (v:=.tuple #[.slice none 0 0,.bool false]) (by simp [results,Tryz.results23,go_sem];first | done | (rfl;done) | (repeat' constructor)) rfl (retSu_no hno W1b)
 cases hbx:boxP (cn .f32 a,cn .f32 b,cn .f32 c) (cn .f32 d,cn .f32 e,cn .f32 f)
 ·have hno:R = none:=by rw [hR.out];unfold surfOk;rw [show boxOk (cnB a b c d e f) = false from hbx];simp
  go_wp2_with (first | (go_at_call 60;refine hv.mono ?_;rintro _ w2 ⟨rfl,hb1⟩;have W1b:=below_step W1b hb1;have hkept:=keepT hkept hb1 rfl;clear hK;have hK:=hkept;simp only [Kept,ka,kb,kc,kd,ke,kf,kg] at hK;rw [hval]) | (go_at_call 61;refine (s_box_any a b c d e f _ _ _ (by simp only [Kept,ka,kb,kc,kd,ke,kf,kg];simp [hK])).mono ?_;rintro _ w3 ⟨rfl,hb1⟩;have W1b:=below_step W1b hb1;have hkept:=keepT hkept hb1 rfl;clear hK;have hK:=hkept;simp only [Kept,ka,kb,kc,kd,ke,kf,kg] at hK;rw [hbx]))
  exact bodyPost_ret (v:=.tuple #[.slice none 0 0,.bool false]) (by simp [results,Tryz.results23,go_sem];first | done | (rfl;done) | (repeat' constructor)) rfl (retSu_no hno W1b)
 cases hin:(decide (0 ≤ s) && decide (s ≤ 6))
 ·have hno:R = none:=by
   rw [hR.out,if_neg]
   unfold surfOk
   intro h
   simp only [Bool.and_eq_true,decide_eq_true_eq] at h
   rw [Bool.and_eq_false_iff] at hin
   simp only [decide_eq_false_iff_not] at hin
   omega
  go_wp2_with (first | (go_at_call 60;refine hv.mono ?_;rintro _ w2 ⟨rfl,hb1⟩;have W1b:=below_step W1b hb1;have hkept:=keepT hkept hb1 rfl;clear hK;have hK:=hkept;simp only [Kept,ka,kb,kc,kd,ke,kf,kg] at hK;rw [hval]) | (go_at_call 61;refine (s_box_any a b c d e f _ _ _ (by simp only [Kept,ka,kb,kc,kd,ke,kf,kg];simp [hK])).mono ?_;rintro _ w3 ⟨rfl,hb1⟩;have W1b:=below_step W1b hb1;have hkept:=keepT hkept hb1 rfl;clear hK;have hK:=hkept;simp only [Kept,ka,kb,kc,kd,ke,kf,kg] at hK;rw [hbx]) | (go_at_call 71;refine (s_in_any _ _ _ _).mono ?_;rintro _ w4 ⟨rfl,rfl⟩;rw [hin]))
  exact bodyPost_ret (v:=.tuple #[.slice none 0 0,.bool false]) (by simp [results,Tryz.results23,go_sem];first | done | (rfl;done) | (repeat' constructor)) rfl (retSu_no hno W1b)
 go_upto_region 3 with (first | (go_at_call 60;refine hv.mono ?_;rintro _ w2 ⟨rfl,hb1⟩;have W1b:=below_step W1b hb1;have hkept:=keepT hkept hb1 rfl;clear hK;have hK:=hkept;simp only [Kept,ka,kb,kc,kd,ke,kf,kg] at hK;rw [hval]) | (go_at_call 61;refine (s_box_any a b c d e f _ _ _ (by simp only [Kept,ka,kb,kc,kd,ke,kf,kg];simp [hK])).mono ?_;rintro _ w3 ⟨rfl,hb1⟩;have W1b:=below_step W1b hb1;have hkept:=keepT hkept hb1 rfl;clear hK;have hK:=hkept;simp only [Kept,ka,kb,kc,kd,ke,kf,kg] at hK;rw [hbx]) | (go_at_call 71;refine (s_in_any _ _ _ _).mono ?_;rintro _ w4 ⟨rfl,rfl⟩;rw [hin]))
 have hs:0 ≤ s ∧ s ≤ 6:=by
  rw [Bool.and_eq_true,decide_eq_true_eq,decide_eq_true_eq] at hin
  exact hin
 obtain ⟨N,rfl⟩:=Int.eq_ofNat_of_zero_le hs.1
 have hN:N ≤ 6:=by omega
 have hRs:Hid (R = surf halfS (sgS ns) N [cnB a b c d e f]):=by
  unfold Hid
  rw [hR.out,if_pos (by unfold surfOk;rw [hval,show boxOk (cnB a b c d e f) = true from hbx];simp;omega)]
  rfl
 have hl:1 ≤ ns.length ∧ ns.length ≤ 16:=by
  simp only [validS,Bool.and_eq_true,decide_eq_true_eq] at hval
  exact hval.1
 have hok:=hvok hval
 have hne:ns ≠ []:=by intro h;rw [h] at hl;simp at hl
 have hb:=hbp hne
 subst hb
 have hsh3:ShapeIn ns w.heap.size 0 nb no cap w3:=⟨by simp [hK],fun i h => (hsh i h).keep W1b⟩
 clear hR hs hin hv hnum hbp hsh
 go_wp2_with fail
 go_loopw [8,9] (fun v i wr => ∃ (k:Nat) (bs:List Bx),k ≤ N ∧ i = .int .i64 (k:Int) ∧ w3.heap.size ≤ wr.heap.size ∧ wr.ownsRow w3.heap.size 40 6 v bs.length (fb bs) ∧ bs.length ≤ 2 ^ k ∧ (∀ x ∈ bs,boxOk (cnb x) = true) ∧ R = surf halfS (sgS ns) (N - k) (bs.map cnb) ∧ Below w3.heap.size w3 wr) (fun _ i _ => N + 1 - (intOf i).toNat)
 case atStart => exact ⟨0,[((a,b,c),d,e,f)],by omega,rfl,by simp,World.ownsRow_lit w3 #[F1 a,F1 b,F1 c,F1 d,F1 e,F1 f] 1 (Nat.le_refl _) (by unfold maxLen;omega) rfl,by simp,(fun x hx => by simp at hx;subst hx;exact hbx),hRs.out,(Below.refl _ _).alloc (Nat.le_refl _) _⟩
 case round =>
  obtain ⟨k,bs,hk,rfl,hsz,hown,hbl,hbk,hRk,Wb⟩:=hrel
  obtain ⟨p,g,cp,rfl,hpg,hBx⟩:=row_boxes hown rfl
  have hk':(k:Int) < (N:Int) + 1:=by omega
  have hk0:(0:Int) ≤ (k:Int):=by omega
  have hpos:(0:Int) ≤ (bs.length:Int):=by omega
  have h2k:2 ^ k ≤ 2 ^ 6:=Nat.pow_le_pow_right (by decide) (by omega)
  have h64:bs.length ≤ 64:=by omega
  rename World => wo
  go_wp2_with fail
  go_loopw [10,11] (fun v i wr => ∃ (m:Nat) (out:List Bx),m ≤ bs.length ∧ i = .int .i64 (m:Int) ∧ wo.heap.size ≤ wr.heap.size ∧ wr.ownsRow wo.heap.size 40 6 v out.length (fb out) ∧ out.length ≤ m ∧ out.map cnb = ((bs.take m).map cnb).filter (fun b => sgS ns b == 0) ∧ Below wo.heap.size wo wr) (fun _ i _ => bs.length - (intOf i).toNat)
  case atStart => exact ⟨0,[],by omega,rfl,by simp,World.ownsRow_lit wo #[] 0 (Nat.le_refl _) (by unfold maxLen;omega) rfl,by simp,rfl,(Below.refl _ _).alloc (Nat.le_refl _) _⟩
  case round =>
   obtain ⟨m,out,hm,rfl,hsz2,hown2,hol,hom,Wb2⟩:=hrel
   by_cases hlt:m < bs.length
   ·have hlt':(m:Int) < (bs.length:Int):=by omega
    have h0:(0:Int) ≤ (m:Int):=by omega
    have hpe:=hpg (by intro h;rw [h] at hlt;simp at hlt)
    subst hpe
    have hb:=(hBx.keep Wb2) m hlt
    obtain ⟨⟨⟨a,b,c⟩,d,e,f⟩,hbx2⟩:∃ x,x = bs[m]:=⟨_,rfl⟩
    rw [← hbx2] at hb
    have c0:=hb 0 _ rfl
    have c1:=hb 1 _ rfl
    have c2:=hb 2 _ rfl
    have c3:=hb 3 _ rfl
    have c4:=hb 4 _ rfl
    have c5:=hb 5 _ rfl
    simp only [Nat.add_zero,Nat.zero_add] at c0 c1 c2 c3 c4 c5
    clear hb
    have hkept:Kept [(⟨g,m * 6,none⟩,F1 a),(⟨g,m * 6 + 1,none⟩,F1 b),(⟨g,m * 6 + 2,none⟩,F1 c),(⟨g,m * 6 + 3,none⟩,F1 d),(⟨g,m * 6 + 4,none⟩,F1 e),(⟨g,m * 6 + 5,none⟩,F1 f)] [] wr:=kcons c0 (kcons c1 (kcons c2 (kcons c3 (kcons c4 (kcons c5 knil)))))
    have hsh5:=hsh3.keep (below_step Wb Wb2)
    have hsg:Calls Tryz.prog 72 #[.pointer (some ⟨w.heap.size,0,none⟩),.pointer (some ⟨g,m * 6,none⟩)] wr (RetSg (sgS ns (cnB a b c d e f)) wr):=s_sign_any ns hok hl w.heap.size 0 nb no cap g (m * 6) a b c d e f wr hsh5 hkept
    obtain ⟨sg,hsg2⟩:∃ sg,Hid (sg = sgS ns (cnB a b c d e f)):=⟨_,rfl⟩
    rw [← hsg2.out] at hsg
    have hbc:Hid (cnb bs[m] = cnB a b c d e f):=by unfold Hid;rw [← hbx2];rfl
    have hnext:Hid (((bs.take (m + 1)).map cnb).filter (fun b => sgS ns b == 0) = out.map cnb ++ (if sg = 0 then [cnB a b c d e f] else [])):=by
     unfold Hid
     rw [(List.take_append_getElem hlt).symm,List.map_append,List.filter_append,← hom]
     congr 1
     simp only [List.map_cons,List.map_nil,List.filter_cons,List.filter_nil]
     rw [hbc.out,← hsg2.out]
     by_cases h0:sg = 0
     ·rw [h0];rfl
     ·rw [if_neg h0,if_neg (by simpa using h0)]
    clear hsh3 hsh5 hBx c0 c1 c2 c3 c4 c5
    have hK:=hkept;simp only [Kept,ka,kb,kc,kd,ke,kf,kg] at hK
    by_cases hz:sg = 0
    ·subst hz
     go_wp2_with (first
      | (go_at_call 72;refine hsg.mono ?_;rintro _ w5 ⟨rfl,hb1⟩;have Wb5:=below_step Wb2 hb1;have hown5:=owns_below hown2 hb1;have hkept:=keepT hkept hb1 rfl;clear hK;have hK:=hkept;simp only [Kept,ka,kb,kc,kd,ke,kf,kg] at hK)
      | (at_builtin;refine wp_appB wo.heap.size rfl (.tmp 42) (.tmp 47) rfl _ _ out rfl (hown5.alloc _) w5.heap.size 1 ((a,b,c),d,e,f) (by first | rfl | simp) (box_at (by simp) ((a,b,c),d,e,f) _) (by omega) (by have:=Wb5.size;simp;omega) ?_;intro v5 w6 hown6 hg6))
     refine ⟨⟨m + 1,out ++ [((a,b,c),d,e,f)],by omega,by simp,?_,by simpa using hown6,by simp;omega,?_,grown_below (Wb5.alloc Wb5.size _) (hown5.alloc _) hg6 (Nat.le_refl _)⟩,by simp [intOf];omega⟩
     ·exact Nat.le_trans Wb5.size (by have:=hg6.size;simp at this ⊢;omega)
     ·rw [hnext.out,List.map_append];simp;rfl
    ·have hz2:(sg == 0) = false:=by simpa using hz
     go_wp2_with (go_at_call 72;refine hsg.mono ?_;rintro _ w5 ⟨rfl,hb1⟩;have Wb5:=below_step Wb2 hb1;have hown5:=owns_below hown2 hb1;have hkept:=keepT hkept hb1 rfl;clear hK;have hK:=hkept;simp only [Kept,ka,kb,kc,kd,ke,kf,kg] at hK)
     exact ⟨⟨m + 1,out,by omega,by simp,Wb5.size,hown5,by omega,by rw [hnext.out,if_neg hz,List.append_nil],Wb5⟩,by simp [intOf];omega⟩
   ·obtain rfl:m = bs.length:=by omega
    have hom2:out.map cnb = (bs.map cnb).filter (fun b => sgS ns b == 0):=by rw [hom,List.take_of_length_le (Nat.le_refl _)]
    have hout:∀ x ∈ out.map cnb,boxOk x = true:=by
     rw [hom2]
     intro x hx
     obtain ⟨y,hy,rfl⟩:=List.mem_map.1 (List.mem_filter.1 hx).1
     exact hbk y hy
    have W2b:=below_step Wb Wb2
    have hsz3:w3.heap.size ≤ wr.heap.size:=Nat.le_trans hsz hsz2
    have hws:w.heap.size ≤ w3.heap.size:=W1b.size
    clear hom hBx hown hlt
    by_cases hkN:k = N
    ·subst hkN
     have hRk2:R = some (out.map cnb):=by rw [hRk,Nat.sub_self,surf,hom2]
     clear hRk hRs
     have hown3:=Lib.hid hown2
     clear hown2
     go_wp2_with fail
     exact bodyPost_ret (v:=.tuple #[u10,.bool true]) (by simp [results,Tryz.results23,go_sem];first | done | (rfl;done) | (repeat' constructor)) rfl ⟨u10,out,by rw [hRk2];rfl,fun h => (by rw [hRk2] at h;cases h),fun L hL => ⟨row_base hown3.out (Nat.le_trans hws hsz),by rw [hRk2] at hL;injection hL⟩,below_step W1b W2b⟩
    ·have hkN':((k:Int) == (N:Int)) = false:=by rw [beq_eq_false_iff_ne];omega
     obtain ⟨p2,g2,cp2,rfl,hpg2,hBx2⟩:=row_boxes hown2 rfl
     have hsur:Hid (R = if (out.map cnb).all (bothOk halfS) then surf halfS (sgS ns) (N - k - 1) (halves halfS (out.map cnb)) else none):=by
      unfold Hid
      rw [hRk,show N - k = (N - k - 1) + 1 by omega,surf,← hom2]
      rfl
     have hposo:(0:Int) ≤ (out.length:Int):=by omega
     clear hown2 hRk hRs
     rename World => wq
     go_wp2_with fail
     go_loopw [8,12] (fun v i wr => ∃ (m:Nat) (ys:List Bx),m ≤ out.length ∧ i = .int .i64 (m:Int) ∧ wq.heap.size ≤ wr.heap.size ∧ wr.ownsRow wq.heap.size 40 6 v ys.length (fb ys) ∧ ys.length = 2 * m ∧ ys.map cnb = halves halfS ((out.take m).map cnb) ∧ ((out.take m).map cnb).all (bothOk halfS) = true ∧ Below wq.heap.size wq wr) (fun _ i _ => out.length - (intOf i).toNat)
     case atStart => exact ⟨0,[],by omega,rfl,by simp,World.ownsRow_lit wq #[] 0 (Nat.le_refl _) (by unfold maxLen;omega) rfl,rfl,rfl,rfl,(Below.refl _ _).alloc (Nat.le_refl _) _⟩
     case round =>
      obtain ⟨m,ys,hm,rfl,hsz4,hown4,hyl,hym,hya,Wb4⟩:=hrel
      by_cases hlt:m < out.length
      ·have hlt':(m:Int) < (out.length:Int):=by omega
       have h0:(0:Int) ≤ (m:Int):=by omega
       have hpe:=hpg2 (by intro h;rw [h] at hlt;simp at hlt)
       subst hpe
       have hb:=(hBx2.keep Wb4) m hlt
       obtain ⟨⟨⟨a,b,c⟩,d,e,f⟩,hbx2⟩:∃ x,x = out[m]:=⟨_,rfl⟩
       rw [← hbx2] at hb
       have c0:=hb 0 _ rfl
       have c1:=hb 1 _ rfl
       have c2:=hb 2 _ rfl
       have c3:=hb 3 _ rfl
       have c4:=hb 4 _ rfl
       have c5:=hb 5 _ rfl
       simp only [Nat.add_zero,Nat.zero_add] at c0 c1 c2 c3 c4 c5
       obtain ⟨SS,hSS⟩:∃ SS,Hid (SS = splitP halfS (cnB a b c d e f)):=⟨_,rfl⟩
       have hsp:∀ w',Calls Tryz.prog 73 #[BoxV a b c d e f] w' (RetSs SS w'):=fun w' => by rw [hSS.out];exact s_split_any a b c d e f w'
       have hbc:Hid (cnb out[m] = cnB a b c d e f):=by unfold Hid;rw [← hbx2];rfl
       clear hb hpg2
       go_upto_region 19 with (go_at_call 73;refine (hsp _).mono ?_;rintro _ w5 ⟨a1,b1,c1,d1,e1,f1,a2,b2,c2,d2,e2,f2,rfl,hs1,hs2,hb1⟩;have Wb5:=below_step Wb4 hb1;have hown5:=owns_below hown4 hb1)
       have hb2:Below w5.heap.size w5 ((w5.alloc (.cells #[F1 a1,F1 b1,F1 c1,F1 d1,F1 e1,F1 f1] 40)).alloc (.cells #[F1 a2,F1 b2,F1 c2,F1 d2,F1 e2,F1 f2] 40)):=(by repeat' (first | exact Below.refl _ _ | exact Nat.le_refl _ | refine below_drewN ?_ _ | refine Below.alloc ?_ (by simp <;> omega) _ | refine Below.setCell ?_ (by simp <;> omega) _ | refine below_step ?_ (by assumption)))
       have hown6:((w5.alloc (.cells #[F1 a1,F1 b1,F1 c1,F1 d1,F1 e1,F1 f1] 40)).alloc (.cells #[F1 a2,F1 b2,F1 c2,F1 d2,F1 e2,F1 f2] 40)).ownsRow wq.heap.size 40 6 u8 ys.length (fb ys):=(hown5.alloc _).alloc _
       have hg8:∀ g,w5.heap.size ≤ g → u8.ownBlock ≠ some g:=row_own hown5 (Nat.le_refl _)
       have Wb6:=below_step Wb5 hb2
       have hkept:Kept [(⟨w5.heap.size,0,none⟩,F1 a1),(⟨w5.heap.size,1,none⟩,F1 b1),(⟨w5.heap.size,2,none⟩,F1 c1),(⟨w5.heap.size,3,none⟩,F1 d1),(⟨w5.heap.size,4,none⟩,F1 e1),(⟨w5.heap.size,5,none⟩,F1 f1),(⟨w5.heap.size + 1,0,none⟩,F1 a2),(⟨w5.heap.size + 1,1,none⟩,F1 b2),(⟨w5.heap.size + 1,2,none⟩,F1 c2),(⟨w5.heap.size + 1,3,none⟩,F1 d2),(⟨w5.heap.size + 1,4,none⟩,F1 e2),(⟨w5.heap.size + 1,5,none⟩,F1 f2)] [] ((w5.alloc (.cells #[F1 a1,F1 b1,F1 c1,F1 d1,F1 e1,F1 f1] 40)).alloc (.cells #[F1 a2,F1 b2,F1 c2,F1 d2,F1 e2,F1 f2] 40)):=by simp only [Kept,ka,kb,kc,kd,ke,kf,kg];(first | (go_simp;done) | (simp [World.cell?,World.frozen?,World.alloc,Array.getElem?_push];done))
       have hbo:Hid (bothOk halfS (cnb out[m]) = (boxP (cn .f32 a1,cn .f32 b1,cn .f32 c1) (cn .f32 d1,cn .f32 e1,cn .f32 f1) && boxP (cn .f32 a2,cn .f32 b2,cn .f32 c2) (cn .f32 d2,cn .f32 e2,cn .f32 f2))):=by
        unfold Hid bothOk
        rw [hbc.out,← hSS.out,← hs1,← hs2]
        rfl
       clear hown5 hb1 Wb4 hown4
       generalize (w5.alloc (.cells #[F1 a1,F1 b1,F1 c1,F1 d1,F1 e1,F1 f1] 40)).alloc (.cells #[F1 a2,F1 b2,F1 c2,F1 d2,F1 e2,F1 f2] 40) = w6 at *
       have hs58:w5.heap.size ≤ w6.heap.size:=hb2.size
       clear hb2
       have hwq6:wq.heap.size ≤ w6.heap.size:=Wb6.size
       have hK:=hkept;simp only [Kept,ka,kb,kc,kd,ke,kf,kg] at hK
       have t1:True:=trivial
       cases h1:boxP (cn .f32 a1,cn .f32 b1,cn .f32 c1) (cn .f32 d1,cn .f32 e1,cn .f32 f1)
       ·have hno:R = none:=by
         rw [hsur.out,if_neg]
         intro h
         have h2:=List.all_eq_true.1 h (cnb out[m]) (List.mem_map_of_mem (List.getElem_mem _))
         rw [hbo.out,h1] at h2
         exact absurd h2 (by simp)
        go_wp2_with (go_at_call 61;refine (s_box_any a1 b1 c1 d1 e1 f1 _ _ _ (by simp only [Kept,ka,kb,kc,kd,ke,kf,kg];simp [hK])).mono ?_;rintro _ w7 ⟨rfl,hb1⟩;have Wb6:=below_step Wb6 hb1;have hkept:=keepT hkept hb1 rfl;clear hK;have hK:=hkept;simp only [Kept,ka,kb,kc,kd,ke,kf,kg] at hK;rw [h1])
        exact bodyPost_ret (v:=.tuple #[.slice none 0 0,.bool false]) (by simp [results,Tryz.results23,go_sem];first | done | (rfl;done) | (repeat' constructor)) rfl (retSu_no hno (below_step W1b (below_step W2b Wb6)))
       cases h2:boxP (cn .f32 a2,cn .f32 b2,cn .f32 c2) (cn .f32 d2,cn .f32 e2,cn .f32 f2)
       ·have hno:R = none:=by
         rw [hsur.out,if_neg]
         intro h
         have h3:=List.all_eq_true.1 h (cnb out[m]) (List.mem_map_of_mem (List.getElem_mem _))
         rw [hbo.out,h1,h2] at h3
         exact absurd h3 (by simp)
        go_wp2_with (first
         | (clear t1;go_at_call 61;refine (s_box_any a1 b1 c1 d1 e1 f1 _ _ _ (by simp only [Kept,ka,kb,kc,kd,ke,kf,kg];simp [hK])).mono ?_;rintro _ w7 ⟨rfl,hb1⟩;have Wb6:=below_step Wb6 hb1;have hkept:=keepT hkept hb1 rfl;clear hK;have hK:=hkept;simp only [Kept,ka,kb,kc,kd,ke,kf,kg] at hK;rw [h1])
         | (go_at_call 61;refine (s_box_any a2 b2 c2 d2 e2 f2 _ _ _ (by simp only [Kept,ka,kb,kc,kd,ke,kf,kg];simp [hK])).mono ?_;rintro _ w8 ⟨rfl,hb1⟩;have Wb6:=below_step Wb6 hb1;have hkept:=keepT hkept hb1 rfl;clear hK;have hK:=hkept;simp only [Kept,ka,kb,kc,kd,ke,kf,kg] at hK;rw [h2]))
        exact bodyPost_ret (v:=.tuple #[.slice none 0 0,.bool false]) (by simp [results,Tryz.results23,go_sem];first | done | (rfl;done) | (repeat' constructor)) rfl (retSu_no hno (below_step W1b (below_step W2b Wb6)))
       go_upto_region 21 with (first
         | (clear t1;go_at_call 61;refine (s_box_any a1 b1 c1 d1 e1 f1 _ _ _ (by simp only [Kept,ka,kb,kc,kd,ke,kf,kg];simp [hK])).mono ?_;rintro _ w7 ⟨rfl,hb1⟩;have Wb6:=below_step Wb6 hb1;have hown6:=owns_below hown6 hb1;have hwq6:=Nat.le_trans hwq6 hb1.size;have hs58:=Nat.le_trans hs58 hb1.size;have hkept:=keepT hkept hb1 rfl;clear hK;have hK:=hkept;simp only [Kept,ka,kb,kc,kd,ke,kf,kg] at hK;rw [h1])
         | (go_at_call 61;refine (s_box_any a2 b2 c2 d2 e2 f2 _ _ _ (by simp only [Kept,ka,kb,kc,kd,ke,kf,kg];simp [hK])).mono ?_;rintro _ w8 ⟨rfl,hb1⟩;have Wb6:=below_step Wb6 hb1;have hown6:=owns_below hown6 hb1;have hwq6:=Nat.le_trans hwq6 hb1.size;have hs58:=Nat.le_trans hs58 hb1.size;have hkept:=keepT hkept hb1 rfl;clear hK;have hK:=hkept;simp only [Kept,ka,kb,kc,kd,ke,kf,kg] at hK;rw [h2]))
       have hl1:w5.heap.size < w8.heap.size:=some_lt (a:=⟨w5.heap.size,0,none⟩) (by simp [hK])
       have hl2:w5.heap.size + 1 < w8.heap.size:=some_lt (a:=⟨w5.heap.size + 1,0,none⟩) (by simp [hK])
       have hmapN:Hid ((ys ++ [((a1,b1,c1),d1,e1,f1)] ++ [((a2,b2,c2),d2,e2,f2)]).map cnb = halves halfS ((out.take (m + 1)).map cnb)):=by
        unfold Hid
        rw [(List.take_append_getElem hlt).symm,List.map_append,List.map_append,hym,List.map_append]
        unfold halves
        rw [List.flatMap_append,List.append_assoc]
        congr 1
        simp only [List.map_cons,List.map_nil,List.flatMap_cons,List.flatMap_nil,List.append_nil]
        rw [hbc.out,← hSS.out,← hs1,← hs2]
        rfl
       have hallN:Hid (((out.take (m + 1)).map cnb).all (bothOk halfS) = true):=by
        unfold Hid
        rw [(List.take_append_getElem hlt).symm,List.map_append,List.all_append,hya]
        simp only [List.map_cons,List.map_nil,List.all_cons,List.all_nil]
        rw [hbo.out,h1,h2]
        rfl
       have r1:True:=trivial
       go_region_law (first
        | (clear r1;refine step_appB wq.heap.size rfl (.tmp 74) (.tmp 76) rfl u8 ys.length ys (by simp [Act.eval,Act.put]) (own_drew (hown6.alloc _)) (w8.heap.size) 1 ((a1,b1,c1),d1,e1,f1) (by simp [Act.eval,Act.put]) (box_drew (box_at rfl ((a1,b1,c1),d1,e1,f1) _)) (by omega) (by rw [size_drew];simp;omega) ?_;intro v9 w9 hown9 hg9 hat9;have Wb9:=grown_below (Below.drew (Wb6.alloc hwq6 _)) (own_drew (hown6.alloc _)) hg9 (Nat.le_refl _);have hkept:=kept_grown (keep hkept (((Below.refl w8.heap.size w8).alloc (Nat.le_refl _) _).drew)) hg9 hg8 (by simp);clear hK;have hK:=hkept;simp only [Kept,ka,kb,kc,kd,ke,kf,kg] at hK;have s1:True:=trivial)
        | (clear r1;refine step_appB wq.heap.size rfl (.tmp 74) (.tmp 76) rfl u8 ys.length ys (by simp [Act.eval,Act.put]) (own_drew ((hown6.alloc _).alloc _)) (w8.heap.size) 1 ((a1,b1,c1),d1,e1,f1) (by simp [Act.eval,Act.put]) (box_drew ((box_at rfl ((a1,b1,c1),d1,e1,f1) _).lay _)) (by omega) (by rw [size_drew];simp;omega) ?_;intro v9 w9 hown9 hg9 hat9;have Wb9:=grown_below (Below.drew ((Wb6.alloc hwq6 _).alloc (by simp;omega) _)) (own_drew ((hown6.alloc _).alloc _)) hg9 (Nat.le_refl _);have hkept:=kept_grown (keep hkept ((((Below.refl w8.heap.size w8).alloc (Nat.le_refl _) _).alloc (by simp) _).drew)) hg9 hg8 (by simp);clear hK;have hK:=hkept;simp only [Kept,ka,kb,kc,kd,ke,kf,kg] at hK;have s2:True:=trivial)
        | (clear r1;refine step_appB wq.heap.size rfl (.tmp 74) (.tmp 76) rfl u8 ys.length ys (by simp [Act.eval,Act.put]) (own_drew ((hown6.alloc _).alloc _)) (w8.heap.size + 1) 1 ((a1,b1,c1),d1,e1,f1) (by simp [Act.eval,Act.put]) (box_drew (box_at (by simp) ((a1,b1,c1),d1,e1,f1) _)) (by omega) (by rw [size_drew];simp;omega) ?_;intro v9 w9 hown9 hg9 hat9;have Wb9:=grown_below (Below.drew ((Wb6.alloc hwq6 _).alloc (by simp;omega) _)) (own_drew ((hown6.alloc _).alloc _)) hg9 (Nat.le_refl _);have hkept:=kept_grown (keep hkept ((((Below.refl w8.heap.size w8).alloc (Nat.le_refl _) _).alloc (by simp) _).drew)) hg9 hg8 (by simp);clear hK;have hK:=hkept;simp only [Kept,ka,kb,kc,kd,ke,kf,kg] at hK;have s3:True:=trivial)
        | (clear s1;refine step_appB wq.heap.size rfl (.tmp 77) (.tmp 79) rfl v9 (ys.length + 1) (ys ++ [((a1,b1,c1),d1,e1,f1)]) (by simp [Act.eval,Act.put]) (hown9.alloc _) (w9.heap.size) 1 ((a2,b2,c2),d2,e2,f2) (by simp [Act.eval,Act.put]) (box_at rfl ((a2,b2,c2),d2,e2,f2) _) (by omega) (by have:=Wb9.size;first | omega | (simp;omega)) ?_;intro v10 w10 hown10 hg10 hat10;have Wb10:=grown_below (Wb9.alloc Wb9.size _) (hown9.alloc _) hg10 (Nat.le_refl _))
        | (clear s2;refine step_appB wq.heap.size rfl (.tmp 77) (.tmp 79) rfl v9 (ys.length + 1) (ys ++ [((a1,b1,c1),d1,e1,f1)]) (by simp [Act.eval,Act.put]) hown9 (w8.heap.size + 1) 1 ((a2,b2,c2),d2,e2,f2) (by simp [Act.eval,Act.put]) (BoxAt.grown hg9 (box_drew (box_at (by simp) ((a2,b2,c2),d2,e2,f2) _)) (hg8 _ (by omega))) (by omega) (by have:=Wb9.size;first | omega | (simp;omega)) ?_;intro v10 w10 hown10 hg10 hat10;have Wb10:=grown_below Wb9 hown9 hg10 (Nat.le_refl _))
        | (clear s3;refine step_appB wq.heap.size rfl (.tmp 77) (.tmp 79) rfl v9 (ys.length + 1) (ys ++ [((a1,b1,c1),d1,e1,f1)]) (by simp [Act.eval,Act.put]) hown9 (w8.heap.size) 1 ((a2,b2,c2),d2,e2,f2) (by simp [Act.eval,Act.put]) (BoxAt.grown hg9 (box_drew ((box_at rfl ((a2,b2,c2),d2,e2,f2) _).lay _)) (hg8 _ (by omega))) (by omega) (by have:=Wb9.size;first | omega | (simp;omega)) ?_;intro v10 w10 hown10 hg10 hat10;have Wb10:=grown_below Wb9 hown9 hg10 (Nat.le_refl _)))
       all_goals
        clear hK hkept hg9 hat9 hat10 hown9
        go_wp2_with fail
        exact ⟨⟨m + 1,ys ++ [((a1,b1,c1),d1,e1,f1)] ++ [((a2,b2,c2),d2,e2,f2)],by omega,by simp,Wb10.size,by simpa using hown10,by simp;omega,hmapN.out,hallN.out,Wb10⟩,by simp [intOf];omega⟩
      ·obtain rfl:m = out.length:=by omega
       have hym2:ys.map cnb = halves halfS (out.map cnb):=by rw [hym,List.take_of_length_le (Nat.le_refl _)]
       have hya2:(out.map cnb).all (bothOk halfS) = true:=by rw [List.take_of_length_le (Nat.le_refl _)] at hya;exact hya
       have hsurN:Hid (R = surf halfS (sgS ns) (N - k - 1) (halves halfS (out.map cnb))):=by unfold Hid;rw [hsur.out,hya2];rfl
       have hown5:=Lib.hid hown4
       clear hown4 hym hya hBx2
       go_wp2_with fail
       refine ⟨⟨k + 1,ys,by omega,by simp,Nat.le_trans hsz3 hsz4,row_base hown5.out hsz3,by rw [Nat.pow_succ];omega,?_,?_,below_step W2b Wb4⟩,by simp [intOf];omega⟩
       ·intro x hx
        exact halves_ok (l:=out.map cnb) hya2 (cnb x) (by rw [← hym2];exact List.mem_map_of_mem hx)
       ·rw [hsurN.out,hym2,show N - (k + 1) = N - k - 1 by omega]
end Go.Proofs.YtbiacfkiakddiaaGreat
