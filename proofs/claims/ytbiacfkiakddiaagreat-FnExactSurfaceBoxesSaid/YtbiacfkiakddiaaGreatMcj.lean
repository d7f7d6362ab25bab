/-
 Lemmas: B9.
-/
import Derived.Test.YtbiacfkiakddiaaGreatMch
set_option linter.unusedVariables false
set_option linter.unusedSimpArgs false
namespace Go.Proofs.YtbiacfkiakddiaaGreat
open Go.RowKit Go.Fl
/-- A list of boxes that can be read. -/
def BxRd (v:Value) (bs:List Bx) (w:World):Prop:=∃ p g cap,v = .slice p bs.length cap ∧ (bs ≠ [] → p = some ⟨g,0,none⟩) ∧ BxsIn bs g 0 w
theorem BxRd.keep {v:Value} {bs:List Bx} {w w':World} (h:BxRd v bs w) (hb:Below w.heap.size w w'):BxRd v bs w':=by
 obtain ⟨p,g,cap,h1,h2,h3⟩:=h
 exact ⟨p,g,cap,h1,h2,h3.keep hb⟩
theorem cnB_parts {a b c d e f a' b' c' d' e' f':Nat} (h:cnB a b c d e f = cnB a' b' c' d' e' f'):(cn .f32 a = cn .f32 a' ∧ cn .f32 b = cn .f32 b' ∧ cn .f32 c = cn .f32 c') ∧ cn .f32 d = cn .f32 d' ∧ cn .f32 e = cn .f32 e' ∧ cn .f32 f = cn .f32 f' :=
 ⟨⟨congrArg (·.1.1) h,congrArg (·.1.2.1) h,congrArg (·.1.2.2) h⟩,congrArg (·.2.1) h,congrArg (·.2.2.1) h,congrArg (·.2.2.2) h⟩

set_option maxRecDepth 100000 in
set_option maxHeartbeats 1000000 in
theorem eq_box (a b c d e f a' b' c' d' e' f':Nat) (h:cnB a b c d e f = cnB a' b' c' d' e' f') (w:World) :
  Calls Tryz.prog 77 #[BoxV a b c d e f,BoxV a' b' c' d' e' f'] w (fun e w' => e = .returned (.bool true) ∧ Below w.heap.size w w'):=by
 obtain ⟨⟨e1,e2,e3⟩,e4,e5,e6⟩:=cnB_parts h
 clear h
 have k1:∀ w',Calls Tryz.prog 86 #[V3 a b c,V3 a' b' c'] w' (fun e w'' => e = .returned (.bool true) ∧ Below w'.heap.size w' w''):=fun w' => eq_vector a b c a' b' c' e1 e2 e3 w'
 have k2:∀ w',Calls Tryz.prog 86 #[V3 d e f,V3 d' e' f'] w' (fun e w'' => e = .returned (.bool true) ∧ Below w'.heap.size w' w''):=fun w' => eq_vector d e f d' e' f' e4 e5 e6 w'
 clear e1 e2 e3 e4 e5 e6
 go_enter Tryz.func77,Tryz.ntmps77
 go_upto_region 1 with fail
 generalize hW:(w.alloc (.cells #[F1 a,F1 b,F1 c,F1 d,F1 e,F1 f] 40)).alloc (.cells #[F1 a',F1 b',F1 c',F1 d',F1 e',F1 f'] 40) = W1 at *
 have W1b:Below w.heap.size w W1:=by subst hW;exact (by repeat' (first | exact Below.refl _ _ | exact Nat.le_refl _ | refine below_drewN ?_ _ | refine Below.alloc ?_ (by simp <;> omega) _ | refine Below.setCell ?_ (by simp <;> omega) _ | refine below_step ?_ (by assumption)))
 have hkept:Kept [(⟨w.heap.size,0,none⟩,F1 a),(⟨w.heap.size,1,none⟩,F1 b),(⟨w.heap.size,2,none⟩,F1 c),(⟨w.heap.size,3,none⟩,F1 d),(⟨w.heap.size,4,none⟩,F1 e),(⟨w.heap.size,5,none⟩,F1 f),(⟨w.heap.size + 1,0,none⟩,F1 a'),(⟨w.heap.size + 1,1,none⟩,F1 b'),(⟨w.heap.size + 1,2,none⟩,F1 c'),(⟨w.heap.size + 1,3,none⟩,F1 d'),(⟨w.heap.size + 1,4,none⟩,F1 e'),(⟨w.heap.size + 1,5,none⟩,F1 f')] [] W1:=by
  subst hW;simp only [Kept,ka,kb,kc,kd,ke,kf,kg];(first | (go_simp;done) | (simp [World.cell?,World.frozen?,World.alloc,Array.getElem?_push];done))
 clear hW
 have hK:=hkept;simp only [Kept,ka,kb,kc,kd,ke,kf,kg] at hK
 have t1:True:=trivial
 go_wp2_with (first
  | (clear t1;go_at_call 86;refine (k1 _).mono ?_;rintro _ w3 ⟨rfl,hb1⟩;have W1b:=below_step W1b hb1;have hkept:=keepT hkept hb1 rfl;clear hK;have hK:=hkept;simp only [Kept,ka,kb,kc,kd,ke,kf,kg] at hK)
  | (go_at_call 86;refine (k2 _).mono ?_;rintro _ w4 ⟨rfl,hb1⟩;have W1b:=below_step W1b hb1;have hkept:=keepT hkept hb1 rfl;clear hK;have hK:=hkept;simp only [Kept,ka,kb,kc,kd,ke,kf,kg] at hK))
 go_ret
 exact ⟨rfl,W1b⟩

set_option maxRecDepth 100000 in
set_option maxHeartbeats 2000000 in
theorem eq_boxes (bs bs':List Bx) (hbs:bs.map cnb = bs'.map cnb) (hn:bs.length ≤ 1000000) (v u:Value) (w:World) (h1:BxRd v bs w) (h2:BxRd u bs' w) :
  Calls Tryz.prog 25 #[v,u] w (fun e w' => e = .returned (.bool true) ∧ Below w.heap.size w w'):=by
 have hll:bs'.length = bs.length:=by have:=congrArg List.length hbs;simpa using this.symm
 obtain ⟨bp,g,cap,rfl,hg,hc⟩:=h1
 obtain ⟨bp',g',cap',rfl,hg',hc'⟩:=h2
 rw [hll]
 have hnI:(bs.length:Int) ≤ 9223372036854775807:=by omega
 go_enter Tryz.func25,Tryz.ntmps25
 go_wp2_with fail
 go_loopw [5] (fun i wr => ∃ (m:Nat),m ≤ bs.length ∧ i = .int .i64 (m:Int) ∧ Below w.heap.size w wr) (fun i _ => bs.length - (intOf i).toNat)
 case atStart => exact ⟨0,by omega,rfl,Below.refl _ _⟩
 case round =>
  obtain ⟨m,hm,rfl,Wb⟩:=hrel
  by_cases hlt:m < bs.length
  ·have hlt':(m:Int) < (bs.length:Int):=by omega
   have h0:(0:Int) ≤ (m:Int):=by omega
   have e1:=hg (by intro h;rw [h] at hlt;simp at hlt)
   have e2:=hg' (by intro h;rw [h] at hll;simp at hll;omega)
   subst e1;subst e2
   have b1:=(hc.keep Wb) m hlt
   have b2:=(hc'.keep Wb) m (by omega)
   have hcn:cnb bs[m] = cnb (bs'[m]'(by omega)):=by
    have:=congrArg (fun l => l[m]?) hbs
    simp only [List.getElem?_map] at this
    rw [List.getElem?_eq_getElem hlt,List.getElem?_eq_getElem (by omega)] at this
    simpa using this
   obtain ⟨⟨⟨a,b,c⟩,d,e,f⟩,hx⟩:∃ x,x = bs[m]:=⟨_,rfl⟩
   obtain ⟨⟨⟨a',b',c'⟩,d',e',f'⟩,hx'⟩:∃ x,x = bs'[m]'(by omega):=⟨_,rfl⟩
   rw [← hx] at b1 hcn
   rw [← hx'] at b2 hcn
   have hkept:Kept [(⟨g,m * 6,none⟩,F1 a),(⟨g,m * 6 + 1,none⟩,F1 b),(⟨g,m * 6 + 2,none⟩,F1 c),(⟨g,m * 6 + 3,none⟩,F1 d),(⟨g,m * 6 + 4,none⟩,F1 e),(⟨g,m * 6 + 5,none⟩,F1 f),(⟨g',m * 6,none⟩,F1 a'),(⟨g',m * 6 + 1,none⟩,F1 b'),(⟨g',m * 6 + 2,none⟩,F1 c'),(⟨g',m * 6 + 3,none⟩,F1 d'),(⟨g',m * 6 + 4,none⟩,F1 e'),(⟨g',m * 6 + 5,none⟩,F1 f')] [] wr:=by
    have c0:=b1 0 _ rfl
    have c1:=b1 1 _ rfl
    have c2:=b1 2 _ rfl
    have c3:=b1 3 _ rfl
    have c4:=b1 4 _ rfl
    have c5:=b1 5 _ rfl
    have c6:=b2 0 _ rfl
    have c7:=b2 1 _ rfl
    have c8:=b2 2 _ rfl
    have c9:=b2 3 _ rfl
    have c10:=b2 4 _ rfl
    have c11:=b2 5 _ rfl
    simp only [Nat.add_zero,Nat.zero_add] at c0 c1 c2 c3 c4 c5 c6 c7 c8 c9 c10 c11
    exact kcons c0 (kcons c1 (kcons c2 (kcons c3 (kcons c4 (kcons c5 (kcons c6 (kcons c7 (kcons c8 (kcons c9 (kcons c10 (kcons c11 knil)))))))))))
   have hcall:∀ w',Below wr.heap.size wr w' → Calls Tryz.prog 77 #[BoxV a b c d e f,BoxV a' b' c' d' e' f'] w' (fun e w'' => e = .returned (.bool true) ∧ Below w'.heap.size w' w''):=fun w' _ => eq_box _ _ _ _ _ _ _ _ _ _ _ _ hcn w'
   clear hc hc' hg hg' b1 b2 hcn hx hx' hbs
   go_upto_region 6 with fail
   refine Qr.wp_below_all (by kernel_rfl) (by kernel_rfl) PhiE ?_
   repeat (first | (refine Qr.walk_plain rfl fun K hK => ?_;apply Qr.one_det;(focus (intro w' hw';have HK:=keep hkept hw';simp only [Kept,ka,kb,kc,kd,ke,kf,kg] at HK;go_simp;first | done | rfl));go_simp;refine hK _ ?_;clear hK K) | (refine Qr.walk_plain rfl fun K hK => ?_;apply Qr.one_call;(focus (intro w' hw';go_simp;first | done | exact ⟨rfl,rfl⟩));(focus (intro w' hw'; go_at_call 77;refine (hcall _ hw').mono ?_;rintro _ w2 ⟨rfl,hb1⟩;exact ⟨_,rfl,PhiE.yes _ _,below_step hw' (by assumption),by assumption⟩));intro v hv;cases hv;go_simp;refine hK _ ?_;clear hK K))
   refine Qr.walk_nil fun w6 hw6 => ?_
   go_wp2_with fail
   exact ⟨⟨m + 1,by omega,by simp,below_step Wb hw6⟩,by simp [intOf];omega⟩
  ·obtain rfl:m = bs.length:=by omega
   clear hc hc'
   go_wp2_with fail
   go_ret
   exact ⟨rfl,Wb⟩

/-- Cells that are marked. -/
def mkC (xs:List Value) (k:Int):Nat → List Value
 | 0 => xs
 | j + 1 => (mkC xs k j).set j (F1 (mk1 (k + (j:Int))))
theorem mkC_len (xs:List Value) (k:Int):∀ j,(mkC xs k j).length = xs.length
 | 0 => rfl
 | j + 1 => by rw [mkC,List.length_set,mkC_len]
theorem mkC_get (xs:List Value) (k:Int):∀ (j i:Nat),i < j → i < xs.length → (mkC xs k j)[i]? = some (F1 (mk1 (k + (i:Int))))
 | j + 1,i,h,hl => by
  rw [mkC]
  by_cases e:j = i
  ·subst e;rw [List.getElem?_set_self (by rw [mkC_len];exact hl)]
  ·rw [List.getElem?_set_ne e];exact mkC_get xs k j i (by omega) hl
theorem row_set6 {w:World} {base:Nat} {e:TypeId} {g n cap:Nat} {xs:List Value} (h:w.ownsRow base e 6 (.slice (some ⟨g,0,none⟩) n cap) n xs) (m:Nat) (hm:m < n) (u0 u1 u2 u3 u4 u5:Value) :
  ((((((w.setCell ⟨g,m * 6,none⟩ u0).setCell ⟨g,m * 6 + 1,none⟩ u1).setCell ⟨g,m * 6 + 2,none⟩ u2).setCell ⟨g,m * 6 + 3,none⟩ u3).setCell ⟨g,m * 6 + 4,none⟩ u4).setCell ⟨g,m * 6 + 5,none⟩ u5).ownsRow base e 6 (.slice (some ⟨g,0,none⟩) n cap) n ((((((xs.set (m * 6) u0).set (m * 6 + 1) u1).set (m * 6 + 2) u2).set (m * 6 + 3) u3).set (m * 6 + 4) u4).set (m * 6 + 5) u5) :=
 row_set (row_set (row_set (row_set (row_set (row_set h _ u0 (by omega)) _ u1 (by omega)) _ u2 (by omega)) _ u3 (by omega)) _ u4 (by omega)) _ u5 (by omega)

theorem bel6m {B g:Nat} {a w:World} (p:Nat) (h:Below B a w) (hg:B ≤ g) (x0 x1 x2 x3 x4 x5:Value):Below B a ((((((w.setCell ⟨g,p,none⟩ x0).setCell ⟨g,p + 1,none⟩ x1).setCell ⟨g,p + 2,none⟩ x2).setCell ⟨g,p + 3,none⟩ x3).setCell ⟨g,p + 4,none⟩ x4).setCell ⟨g,p + 5,none⟩ x5) :=
 (((((h.setCell (p:=⟨g,_,none⟩) hg _).setCell (p:=⟨g,_,none⟩) hg _).setCell (p:=⟨g,_,none⟩) hg _).setCell (p:=⟨g,_,none⟩) hg _).setCell (p:=⟨g,_,none⟩) hg _).setCell (p:=⟨g,_,none⟩) hg _

set_option maxRecDepth 100000 in
set_option maxHeartbeats 4000000 in
theorem mark_boxes (n:Nat) (xs:List Value) (hn:n ≤ 100000) (lo:Nat) (v:Value) (k:Int) (hk:0 ≤ k ∧ k ≤ 1000000) (w:World) (h:w.ownsRow lo 40 6 v n xs) :
  Calls Tryz.prog 26 #[v,.int .i64 k] w (fun e w' => e = .returned (.int .i64 (k + ((n * 6:Nat):Int))) ∧ w'.ownsRow lo 40 6 v n (mkC xs k (n * 6)) ∧ Below lo w w'):=by
 obtain ⟨k0,k1⟩:=hk
 have hnI:(n:Int) ≤ 9223372036854775807:=by omega
 rcases row_form h with ⟨rfl,rfl⟩ | ⟨g,cap,rfl,hlo,hgl⟩
 ·go_enter Tryz.func26,Tryz.ntmps26
  go_wp2_with fail
  go_loopw [1,5] (fun q i wr => i = .int .i64 0 ∧ q = .int .i64 k ∧ wr = w) (fun _ _ _ => 0)
  case atStart => exact ⟨rfl,rfl,rfl⟩
  case round =>
   obtain ⟨rfl,rfl,rfl⟩:=hrel
   go_wp2_with fail
   go_ret
   exact ⟨by simp,h,Below.refl _ _⟩
 have hxl:=h.1
 go_enter Tryz.func26,Tryz.ntmps26
 go_wp2_with fail
 go_loopw [1,5] (fun q i wr => ∃ (m:Nat),m ≤ n ∧ i = .int .i64 (m:Int) ∧ q = .int .i64 (k + ((m * 6:Nat):Int)) ∧ wr.ownsRow lo 40 6 (.slice (some ⟨g,0,none⟩) n cap) n (mkC xs k (m * 6)) ∧ Below lo w wr) (fun _ i _ => n - (intOf i).toNat)
 case atStart => exact ⟨0,by omega,rfl,by simp,h,Below.refl _ _⟩
 case round =>
  obtain ⟨m,hm,rfl,rfl,hown,Wb⟩:=hrel
  by_cases hlt:m < n
  ·have hlt':(m:Int) < (n:Int):=by omega
   have h0:(0:Int) ≤ (m:Int):=by omega
   have hz:=fun j => row_froz hown j
   have hcell:∀ j,j < n * 6 → ∃ r,wr.cell? ⟨g,j,none⟩ = some r:=fun j hj => by
    have hc:=hown.cellAt j hj
    rw [List.getElem?_eq_getElem (by rw [mkC_len];omega)] at hc
    exact ⟨_,hc⟩
   obtain ⟨r0,c0⟩:=hcell (m * 6) (by omega)
   obtain ⟨r1,c1⟩:=hcell (m * 6 + 1) (by omega)
   obtain ⟨r2,c2⟩:=hcell (m * 6 + 2) (by omega)
   obtain ⟨r3,c3⟩:=hcell (m * 6 + 3) (by omega)
   obtain ⟨r4,c4⟩:=hcell (m * 6 + 4) (by omega)
   obtain ⟨r5,c5⟩:=hcell (m * 6 + 5) (by omega)
   obtain ⟨q,hq⟩:∃ q:Int,q = k + ((m * 6:Nat):Int):=⟨_,rfl⟩
   have hset:=Lib.hid (row_set6 hown m hlt (F1 (mk1 q)) (F1 (mk1 (q + 1))) (F1 (mk1 (q + 1 + 1))) (F1 (mk1 (q + 1 + 1 + 1))) (F1 (mk1 (q + 1 + 1 + 1 + 1))) (F1 (mk1 (q + 1 + 1 + 1 + 1 + 1))))
   have hB:=Lib.hid (bel6m (m * 6) Wb hlo (F1 (mk1 q)) (F1 (mk1 (q + 1))) (F1 (mk1 (q + 1 + 1))) (F1 (mk1 (q + 1 + 1 + 1))) (F1 (mk1 (q + 1 + 1 + 1 + 1))) (F1 (mk1 (q + 1 + 1 + 1 + 1 + 1))))
   have hq0:0 ≤ q ∧ q ≤ 1000000000:=by omega
   have hqH:=Lib.hid hq
   rw [← hq]
   clear hown h hcell hq
   go_wp2_with fail
   have hE:q + 1 + 1 + 1 + 1 + 1 + 1 = k + (((m + 1) * 6:Nat):Int):=by rw [hqH.out];omega
   have hset:=hset.out
   refine ⟨⟨m + 1,by omega,by simp,by rw [hE],?_,hB.out⟩,by simp [intOf];omega⟩
   have hM:mkC xs k ((m + 1) * 6) = ((((((mkC xs k (m * 6)).set (m * 6) (F1 (mk1 q))).set (m * 6 + 1) (F1 (mk1 (q + 1)))).set (m * 6 + 2) (F1 (mk1 (q + 1 + 1)))).set (m * 6 + 3) (F1 (mk1 (q + 1 + 1 + 1)))).set (m * 6 + 4) (F1 (mk1 (q + 1 + 1 + 1 + 1)))).set (m * 6 + 5) (F1 (mk1 (q + 1 + 1 + 1 + 1 + 1))):=by
    have e0:k + ((m * 6:Nat):Int) = q:=hqH.out.symm
    have e1:k + ((m * 6 + 1:Nat):Int) = q + 1:=by omega
    have e2:k + ((m * 6 + 1 + 1:Nat):Int) = q + 1 + 1:=by omega
    have e3:k + ((m * 6 + 1 + 1 + 1:Nat):Int) = q + 1 + 1 + 1:=by omega
    have e4:k + ((m * 6 + 1 + 1 + 1 + 1:Nat):Int) = q + 1 + 1 + 1 + 1:=by omega
    have e5:k + ((m * 6 + 1 + 1 + 1 + 1 + 1:Nat):Int) = q + 1 + 1 + 1 + 1 + 1:=by omega
    rw [show (m + 1) * 6 = m * 6 + 1 + 1 + 1 + 1 + 1 + 1 by omega]
    simp only [mkC]
    rw [e0,e1,e2,e3,e4,e5]
   rw [hM]
   exact hset
  ·obtain rfl:m = n:=by omega
   have hH:=Lib.hid hown
   clear hown h
   go_wp2_with fail
   go_ret
   exact ⟨rfl,hH.out,Wb⟩

set_option maxRecDepth 100000 in
set_option maxHeartbeats 2000000 in
theorem held_boxes (n:Nat) (xs:List Value) (hn:n ≤ 100000) (lo:Nat) (v:Value) (k:Int) (hk:0 ≤ k ∧ k ≤ 1000000) (w:World) (h:w.ownsRow lo 40 6 v n (mkC xs k (n * 6))) :
  Calls Tryz.prog 27 #[v,.int .i64 k] w (fun e w' => e = .returned (.int .i64 (k + ((n * 6:Nat):Int))) ∧ Below w.heap.size w w'):=by
 obtain ⟨k0,k1⟩:=hk
 have hnI:(n:Int) ≤ 9223372036854775807:=by omega
 have hxl:=h.1
 rw [mkC_len] at hxl
 rcases row_form h with ⟨rfl,rfl⟩ | ⟨g,cap,rfl,hlo,hgl⟩
 ·go_enter Tryz.func27,Tryz.ntmps27
  go_wp2_with fail
  go_loopw [1,5] (fun q i wr => i = .int .i64 0 ∧ q = .int .i64 k ∧ wr = w) (fun _ _ _ => 0)
  case atStart => exact ⟨rfl,rfl,rfl⟩
  case round =>
   obtain ⟨rfl,rfl,rfl⟩:=hrel
   go_wp2_with fail
   go_ret
   exact ⟨by simp,Below.refl _ _⟩
 have hc2:∀ i,i < n * 6 → w.cell? ⟨g,i,none⟩ = some (F1 (mk1 (k + (i:Int)))):=fun i hi => by
  have h1:=h.cellAt i hi
  rw [mkC_get xs k (n * 6) i hi (by omega)] at h1
  exact h1
 clear h
 go_enter Tryz.func27,Tryz.ntmps27
 go_wp2_with fail
 go_loopw [1,5] (fun q i wr => ∃ (m:Nat),m ≤ n ∧ i = .int .i64 (m:Int) ∧ q = .int .i64 (k + ((m * 6:Nat):Int)) ∧ Below w.heap.size w wr) (fun _ i _ => n - (intOf i).toNat)
 case atStart => exact ⟨0,by omega,rfl,by simp,Below.refl _ _⟩
 case round =>
  obtain ⟨m,hm,rfl,rfl,Wb⟩:=hrel
  by_cases hlt:m < n
  ·have hlt':(m:Int) < (n:Int):=by omega
   have h0:(0:Int) ≤ (m:Int):=by omega
   have hcell:∀ j,j < n * 6 → wr.cell? ⟨g,j,none⟩ = some (F1 (mk1 (k + (j:Int)))):=fun j hj => by rw [lift Wb _ (by rw [hc2 j hj];rfl)];exact hc2 j hj
   obtain ⟨q,hq⟩:∃ q:Int,q = k + ((m * 6:Nat):Int):=⟨_,rfl⟩
   have c0:=hcell (m * 6) (by omega)
   have c1:=hcell (m * 6 + 1) (by omega)
   have c2:=hcell (m * 6 + 2) (by omega)
   have c3:=hcell (m * 6 + 3) (by omega)
   have c4:=hcell (m * 6 + 4) (by omega)
   have c5:=hcell (m * 6 + 5) (by omega)
   rw [show k + ((m * 6:Nat):Int) = q from hq.symm] at c0
   rw [show k + ((m * 6 + 1:Nat):Int) = q + 1 by omega] at c1
   rw [show k + ((m * 6 + 2:Nat):Int) = q + 1 + 1 by omega] at c2
   rw [show k + ((m * 6 + 3:Nat):Int) = q + 1 + 1 + 1 by omega] at c3
   rw [show k + ((m * 6 + 4:Nat):Int) = q + 1 + 1 + 1 + 1 by omega] at c4
   rw [show k + ((m * 6 + 5:Nat):Int) = q + 1 + 1 + 1 + 1 + 1 by omega] at c5
   have e0:=mk_eq q
   have e1:=mk_eq (q + 1)
   have e2:=mk_eq (q + 1 + 1)
   have e3:=mk_eq (q + 1 + 1 + 1)
   have e4:=mk_eq (q + 1 + 1 + 1 + 1)
   have e5:=mk_eq (q + 1 + 1 + 1 + 1 + 1)
   unfold mk1 at c0 c1 c2 c3 c4 c5 e0 e1 e2 e3 e4 e5
   have hq0:0 ≤ q ∧ q ≤ 1000000000:=by omega
   have hqH:=Lib.hid hq
   rw [← hq]
   clear hcell hc2 hq
   go_wp2_with fail
   have hE:q + 1 + 1 + 1 + 1 + 1 + 1 = k + (((m + 1) * 6:Nat):Int):=by rw [hqH.out];omega
   exact ⟨⟨m + 1,by omega,by simp,by rw [hE],Wb⟩,by simp [intOf];omega⟩
  ·obtain rfl:m = n:=by omega
   clear hc2
   go_wp2_with fail
   go_ret
   exact ⟨rfl,Wb⟩
end Go.Proofs.YtbiacfkiakddiaaGreat
