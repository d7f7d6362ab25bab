/-
 Lemmas: C4,U9,U10,Z2.
-/
import Derived.Test.YtbiacfkiakddiaaGreatJbm
set_option linter.unusedVariables false
set_option linter.unusedSimpArgs false
namespace Go.Proofs.YtbiacfkiakddiaaGreat
open Go.RowKit Go.Fl
theorem vec_info:(Tryz.prog.info? 38).map (fun i => (i.zero,i.size,i.bytes)) = some (some (.agg #[.float .f32 0,.float .f32 0,.float .f32 0]),3,12):=by kernel_rfl
theorem make_vecsA (n:Nat) (hn:(n:Int) ≤ 1048576) (w:World):∃ A:Array Value,A.size = n * 3 ∧ (Instr.makeSlice 64 (.int .i64 (n:Int)) (.int .i64 (n:Int))).run Tryz.prog w = .ok (.slice (some ⟨w.heap.size,0,none⟩) n n) (w.alloc (.cells A 38)):=by
 obtain ⟨i0,hi,hz0,hz1,hz2⟩:=info_parts vec_info
 have h:=run_make (P:=Tryz.prog) w 64 38 i0 _ Tryz.underlying64 hi hz0 .i64 .i64 n n (by omega) (by omega) (by rw [hz2];omega) (by omega)
 rw [hz1] at h
 refine ⟨_,?_,h⟩
 simp [madeCells]

set_option maxHeartbeats 1000000 in
theorem sz_vecs (n pcap:Nat) (pp:Option Addr) (left:Int) (w:World) (hn:(n:Int) ≤ 9223372036854775807) (hl:0 ≤ left ∧ left ≤ 1048576) :
  Calls Tryz.prog 31 #[.slice pp n pcap,.int .i64 left] w (fun e w' => e = .returned (.int .i64 (if left < (n:Int) then -1 else left - (n:Int))) ∧ Below w.heap.size w w'):=by
 obtain ⟨l0,l1⟩:=hl
 have hn0:(0:Int) ≤ (n:Int):=by omega
 by_cases h:left < (n:Int)
 ·have h2:left - (n:Int) < 0:=by omega
  rw [if_pos h]
  go_enter Tryz.func31,Tryz.ntmps31
  go_wp2_with fail
  go_ret
  exact ⟨rfl,Below.refl _ _⟩
 ·have h2:¬ left - (n:Int) < 0:=by omega
  rw [if_neg h]
  go_enter Tryz.func31,Tryz.ntmps31
  go_wp2_with fail
  go_ret
  exact ⟨rfl,Below.refl _ _⟩

/-- Points of one's own. -/
def VcOwn (n G:Nat) (P:Nat → Nat × Nat × Nat) (w:World):Prop:=(∃ A:Array Value,A.size = n * 3 ∧ w.heap[G]? = some (.cells A 38 (0,0))) ∧ PtsIn n G 0 P w
theorem VcOwn.keep {n G:Nat} {P:Nat → Nat × Nat × Nat} {w w':World} (h:VcOwn n G P w) (hb:Below w.heap.size w w'):VcOwn n G P w':=by
 obtain ⟨⟨A,h1,h2⟩,h3⟩:=h
 exact ⟨⟨A,h1,by rw [hb.block G (Array.getElem?_eq_some_iff.1 h2).1];exact h2⟩,h3.keep hb⟩

set_option maxRecDepth 100000 in
set_option maxHeartbeats 4000000 in
theorem to_vecs (n pg po pcap:Nat) (P:Nat → Nat × Nat × Nat) (pp:Option Addr) (w:World) (hn:(n:Int) ≤ 1048576) (hpp:n ≠ 0 → pp = some ⟨pg,po,none⟩) (hP:PtsIn n pg po P w) :
  Calls Tryz.prog 33 #[.slice pp n pcap] w (fun e w' => ∃ G,e = .returned (.slice (some ⟨G,0,none⟩) n n) ∧ VcOwn n G P w' ∧ w.heap.size ≤ G ∧ G < w'.heap.size ∧ Below w.heap.size w w'):=by
 obtain ⟨A,hA,hmk⟩:=make_vecsA n hn w
 go_enter Tryz.func33,Tryz.ntmps33
 go_wp2_with fail
 have W1b:Below w.heap.size w (w.alloc (.cells A 38)):=(by repeat' (first | exact Below.refl _ _ | exact Nat.le_refl _ | refine below_drewN ?_ _ | refine Below.alloc ?_ (by first | (simp;done) | (simp;omega)) _ | refine Below.setCell ?_ (by first | (simp;done) | (simp;omega)) _ | refine below_step ?_ (by assumption)))

 have hpar:=heap_alloc_at w (.cells A 38)
 generalize w.alloc (.cells A 38) = W1 at *
 clear hmk
 go_loopw [4] (fun i wr => ∃ (m:Nat) (A:Array Value),m ≤ n ∧ i = .int .i64 (m:Int) ∧ A.size = n * 3 ∧ wr.heap[w.heap.size]? = some (.cells A 38 (0,0)) ∧ (∀ k,k < m → A[k * 3]? = some (F1 (P k).1) ∧ A[k * 3 + 1]? = some (F1 (P k).2.1) ∧ A[k * 3 + 2]? = some (F1 (P k).2.2)) ∧ Below w.heap.size w wr) (fun i _ => n - (intOf i).toNat)
 case atStart => exact ⟨0,A,by omega,rfl,hA,hpar,fun k h => by omega,W1b⟩
 case round =>
  obtain ⟨m,A',hm,rfl,hA',hpar',hk,Wb⟩:=hrel
  clear hpar W1b
  by_cases hlt:m < n
  ·have hlt':(m:Int) < (n:Int):=by omega
   have h0:(0:Int) ≤ (m:Int):=by omega
   have hbp:=hpp (by omega)
   subst hbp
   obtain ⟨p0,p1,p2⟩:=(hP.keep Wb) m hlt
   have hwr:w.heap.size < wr.heap.size:=(Array.getElem?_eq_some_iff.1 hpar').1
   have hH:=Lib.hid hk
   have hQ:=Lib.hid hpar'
   clear hk hP hpar'
   obtain ⟨x,hx⟩:∃ x,Hid ((P m).1 = x):=⟨_,rfl⟩
   obtain ⟨y,hy⟩:∃ y,Hid ((P m).2.1 = y):=⟨_,rfl⟩
   obtain ⟨z,hz⟩:∃ z,Hid ((P m).2.2 = z):=⟨_,rfl⟩
   rw [hx.out] at p0
   rw [hy.out] at p1
   rw [hz.out] at p2
   go_upto_region 5 with fail
   go_wp2_with (go_at_call 64;refine (to_vector x y z _).mono ?_;rintro _ w5 ⟨rfl,hb1⟩;have hp5:w5.heap[w.heap.size]? = some (.cells A' 38 (0,0)):=(by rw [hb1.block _ hwr];exact hQ.out);have W5b:=Lib.hid (below_step Wb hb1);have hc0:w5.cell? ⟨w.heap.size,m * 3,none⟩ = some (A'[m * 3]'(by omega)):=(by rw [arr_cell hp5,Array.getElem?_eq_getElem (by omega)]);have hc1:w5.cell? ⟨w.heap.size,m * 3 + 1,none⟩ = some (A'[m * 3 + 1]'(by omega)):=(by rw [arr_cell hp5,Array.getElem?_eq_getElem (by omega)]);have hc2:w5.cell? ⟨w.heap.size,m * 3 + 2,none⟩ = some (A'[m * 3 + 2]'(by omega)):=(by rw [arr_cell hp5,Array.getElem?_eq_getElem (by omega)]);have hfz:=arr_frozen hp5;replace hp5:=Lib.hid hp5;clear hb1)
   have h4:=arr_set (arr_set (arr_set hp5.out (m * 3) (F1 x)) (m * 3 + 1) (F1 y)) (m * 3 + 2) (F1 z)
   refine ⟨⟨m + 1,_,by omega,by simp,by simpa using hA',h4,fun k hk => ?_,((W5b.out.setCell (p:=⟨w.heap.size,_,none⟩) (Nat.le_refl _) _).setCell (p:=⟨w.heap.size,_,none⟩) (Nat.le_refl _) _).setCell (p:=⟨w.heap.size,_,none⟩) (Nat.le_refl _) _⟩,by simp [intOf];omega⟩
   by_cases e:k = m
   ·subst e
    rw [hx.out,hy.out,hz.out]
    refine ⟨?_,?_,?_⟩
    ·rw [Array.getElem?_setIfInBounds_ne (by omega),Array.getElem?_setIfInBounds_ne (by omega),Array.getElem?_setIfInBounds_self_of_lt (by omega)]
    ·rw [Array.getElem?_setIfInBounds_ne (by omega),Array.getElem?_setIfInBounds_self_of_lt (by simp;omega)]
    ·rw [Array.getElem?_setIfInBounds_self_of_lt (by simp;omega)]
   ·obtain ⟨e1,e2,e3⟩:=hH.out k (by omega)
    rw [Array.getElem?_setIfInBounds_ne (by omega),Array.getElem?_setIfInBounds_ne (by omega),Array.getElem?_setIfInBounds_ne (by omega),Array.getElem?_setIfInBounds_ne (by omega),Array.getElem?_setIfInBounds_ne (by omega),Array.getElem?_setIfInBounds_ne (by omega),Array.getElem?_setIfInBounds_ne (by omega),Array.getElem?_setIfInBounds_ne (by omega),Array.getElem?_setIfInBounds_ne (by omega)]
    exact ⟨e1,e2,e3⟩
  ·obtain rfl:m = n:=by omega
   have hH:=Lib.hid hk
   have hP:=Lib.hid hpar'
   clear hk hpar'
   go_wp2_with fail
   go_ret
   refine ⟨w.heap.size,rfl,⟨⟨A',hA',hP.out⟩,fun i hi => ?_⟩,Nat.le_refl _,(Array.getElem?_eq_some_iff.1 hP.out).1,Wb⟩
   obtain ⟨e1,e2,e3⟩:=hH.out i hi
   simp only [Nat.zero_add]
   exact ⟨by rw [arr_cell hP.out];exact e1,by rw [arr_cell hP.out];exact e2,by rw [arr_cell hP.out];exact e3⟩


set_option maxRecDepth 100000 in
set_option maxHeartbeats 2000000 in
theorem eq_vecs (n G H gc hc:Nat) (hn:n ≤ 1048576) (P:Nat → Nat × Nat × Nat) (w:World) (h1:PtsIn n G 0 P w) (h2:PtsIn n H 0 P w) :
  Calls Tryz.prog 36 #[.slice (some ⟨G,0,none⟩) n gc,.slice (some ⟨H,0,none⟩) n hc] w (fun e w' => e = .returned (.bool true) ∧ Below w.heap.size w w'):=by
 have hnI:(n:Int) ≤ 9223372036854775807:=by omega
 go_enter Tryz.func36,Tryz.ntmps36
 go_wp2_with fail
 go_loopw [5] (fun i wr => ∃ (m:Nat),m ≤ n ∧ i = .int .i64 (m:Int) ∧ Below w.heap.size w wr) (fun i _ => n - (intOf i).toNat)
 case atStart => exact ⟨0,by omega,rfl,Below.refl _ _⟩
 case round =>
  obtain ⟨m,hm,rfl,Wb⟩:=hrel
  by_cases hlt:m < n
  ·have hlt':(m:Int) < (n:Int):=by omega
   have h0:(0:Int) ≤ (m:Int):=by omega
   obtain ⟨a0,a1,a2⟩:=(h1.keep Wb) m hlt
   obtain ⟨b0,b1,b2⟩:=(h2.keep Wb) m hlt
   have hkept:Kept [(⟨G,m * 3,none⟩,F1 (P m).1),(⟨G,m * 3 + 1,none⟩,F1 (P m).2.1),(⟨G,m * 3 + 2,none⟩,F1 (P m).2.2),(⟨H,m * 3,none⟩,F1 (P m).1),(⟨H,m * 3 + 1,none⟩,F1 (P m).2.1),(⟨H,m * 3 + 2,none⟩,F1 (P m).2.2)] [] wr:=by
    simp only [Nat.zero_add] at a0 a1 a2 b0 b1 b2
    simp only [Kept,ka,kb,kc,kd,ke,and_true,true_and];simp [a0,a1,a2,b0,b1,b2]
   clear h1 h2 a0 a1 a2 b0 b1 b2
   generalize (P m).1 = x at *
   generalize (P m).2.1 = y at *
   generalize (P m).2.2 = z at *
   have hcall:∀ w',Below wr.heap.size wr w' → Calls Tryz.prog 86 #[V3 x y z,V3 x y z] w' (fun e w'' => e = .returned (.bool true) ∧ Below w'.heap.size w' w''):=fun w' _ => eq_vector x y z x y z rfl rfl rfl w'
   go_upto_region 6 with fail
   refine Qr.wp_below_all (by kernel_rfl) (by kernel_rfl) PhiE ?_
   repeat (first | (refine Qr.walk_plain rfl fun K hK => ?_;apply Qr.one_det;(focus (intro w' hw';have HK:=keep hkept hw';simp only [Kept,ka,kb,kc,kd,ke,and_true,true_and] at HK;go_simp;first | done | rfl));go_simp;refine hK _ ?_;clear hK K) | (refine Qr.walk_plain rfl fun K hK => ?_;apply Qr.one_call;(focus (intro w' hw';go_simp;first | done | exact ⟨rfl,rfl⟩));(focus (intro w' hw'; go_at_call 86;refine (hcall _ hw').mono ?_;rintro _ w2 ⟨rfl,hb1⟩;exact ⟨_,rfl,PhiE.yes _ _,below_step hw' (by assumption),by assumption⟩));intro v hv;cases hv;go_simp;refine hK _ ?_;clear hK K))
   refine Qr.walk_nil fun w6 hw6 => ?_
   go_wp2_with fail
   exact ⟨⟨m + 1,by omega,by simp,below_step Wb hw6⟩,by simp [intOf];omega⟩
  ·obtain rfl:m = n:=by omega
   clear h1 h2
   go_wp2_with fail
   go_ret
   exact ⟨rfl,Wb⟩

set_option maxRecDepth 100000 in
set_option maxHeartbeats 2000000 in
theorem mark_vecs (n G:Nat) (hn:n ≤ 1048576) (k:Int) (hk:0 ≤ k ∧ k ≤ 1000000000000000) (w:World) (h:∃ A:Array Value,A.size = n * 3 ∧ w.heap[G]? = some (.cells A 38 (0,0))) :
  Calls Tryz.prog 37 #[.slice (some ⟨G,0,none⟩) n n,.int .i64 k] w (fun e w' => e = .returned (.int .i64 (k + 3 * (n:Int))) ∧ Mid G (G + 1) w w'):=by
 obtain ⟨k0,k1⟩:=hk
 have hnI:(n:Int) ≤ 9223372036854775807:=by omega
 go_enter Tryz.func37,Tryz.ntmps37
 go_wp2_with fail
 go_loopw [1,5] (fun q i wr => ∃ (m:Nat),m ≤ n ∧ i = .int .i64 (m:Int) ∧ q = .int .i64 (k + 3 * (m:Int)) ∧ (∃ A:Array Value,A.size = n * 3 ∧ wr.heap[G]? = some (.cells A 38 (0,0))) ∧ Mid G (G + 1) w wr) (fun _ i _ => n - (intOf i).toNat)
 case atStart => exact ⟨0,by omega,rfl,by simp,h,Mid.refl ..⟩
 case round =>
  obtain ⟨m,hm,rfl,rfl,⟨A,hA,hp⟩,hmid⟩:=hrel
  clear h
  by_cases hlt:m < n
  ·have hlt':(m:Int) < (n:Int):=by omega
   have h0:(0:Int) ≤ (m:Int):=by omega
   have hc0:wr.cell? ⟨G,m * 3,none⟩ = some (A[m * 3]'(by omega)):=by rw [arr_cell hp,Array.getElem?_eq_getElem (by omega)]
   have hc1:wr.cell? ⟨G,m * 3 + 1,none⟩ = some (A[m * 3 + 1]'(by omega)):=by rw [arr_cell hp,Array.getElem?_eq_getElem (by omega)]
   have hc2:wr.cell? ⟨G,m * 3 + 2,none⟩ = some (A[m * 3 + 2]'(by omega)):=by rw [arr_cell hp,Array.getElem?_eq_getElem (by omega)]
   have hz:=arr_frozen hp
   have hM:=Lib.hid hmid
   have hP:=Lib.hid hp
   clear hmid hp
   go_wp2_with fail
   have hE:k + 3 * (m:Int) + 1 + 1 + 1 = k + 3 * ((m + 1:Nat):Int):=by omega
   exact ⟨⟨m + 1,by omega,by simp,by rw [hE],⟨_,by simpa using hA,arr_set (arr_set (arr_set hP.out _ _) _ _) _ _⟩,((hM.out.set (p:=⟨G,_,none⟩) ⟨Nat.le_refl _,Nat.lt_succ_self _⟩ _).set (p:=⟨G,_,none⟩) ⟨Nat.le_refl _,Nat.lt_succ_self _⟩ _).set (p:=⟨G,_,none⟩) ⟨Nat.le_refl _,Nat.lt_succ_self _⟩ _⟩,by simp [intOf];omega⟩
  ·obtain rfl:m = n:=by omega
   have hM:=Lib.hid hmid
   clear hmid hp
   go_wp2_with fail
   go_ret
   exact ⟨rfl,hM.out⟩
end Go.Proofs.YtbiacfkiakddiaaGreat

namespace Go.Proofs.YtbiacfkiakddiaaGreat
open Go.RowKit Go.Fl
theorem Mid.widen {lo hi lo' hi':Nat} {w w':World} (h:Mid lo hi w w') (h1:lo' ≤ lo) (h2:hi ≤ hi'):Mid lo' hi' w w':=⟨h.low.mono h1,h.size,fun b hb => h.high b (Nat.le_trans h2 hb)⟩

set_option maxRecDepth 100000 in
set_option maxHeartbeats 4000000 in
theorem mark_nodesB (m:Nat) (hm:m ≤ 1048576) (G hi:Nat) (k:Int) (hk:0 ≤ k ∧ k ≤ 10) (w:World) (h:∀ i,i < m → NodeM G (i * 4) hi w) (hf:∀ o,w.frozen? ⟨G,o,none⟩ = false) :
  Calls Tryz.prog 70 #[.slice (some ⟨G,0,none⟩) m m,.int .i64 k] w (fun e w' => ∃ k',e = .returned (.int .i64 k') ∧ 0 ≤ k' ∧ Mid G hi w w' ∧ k' ≤ 2000000000000):=by
 obtain ⟨k0,k1⟩:=hk
 have hnI:(m:Int) ≤ 9223372036854775807:=by omega
 go_enter Tryz.func70,Tryz.ntmps70
 go_wp2_with fail
 go_loopw [1,5] (fun q i wr => ∃ (j:Nat) (z:Int),j ≤ m ∧ i = .int .i64 (j:Int) ∧ q = .int .i64 z ∧ 0 ≤ z ∧ z ≤ 10 + (j:Int) * 1048579 ∧ Mid G hi w wr ∧ (∀ i,i < m → NodeM G (i * 4) hi wr) ∧ ∀ o,wr.frozen? ⟨G,o,none⟩ = false) (fun _ i _ => m - (intOf i).toNat)
 case atStart => exact ⟨0,k,by omega,rfl,rfl,k0,by omega,Mid.refl ..,h,hf⟩
 case round =>
  obtain ⟨j,z,hj,rfl,rfl,z0,z1,hmid,hn,hfz⟩:=hrel
  clear h hf
  by_cases hlt:j < m
  ·have hlt':(j:Int) < (m:Int):=by omega
   have h0:(0:Int) ≤ (j:Int):=by omega
   obtain ⟨⟨a0,c0⟩,⟨a1,c1⟩,⟨a2,c2⟩,g,n,h4,h5,h6,h7,h8,h9⟩:=hn j hlt
   have hN:=Lib.hid hn
   have hM:=Lib.hid hmid
   have hF:=Lib.hid hfz
   clear hn hmid h8 h9 h7
   go_upto_region 10 with fail
   have hN3:∀ i,i < m → NodeM G (i * 4) hi (((wr.setCell ⟨G,j * 4,none⟩ (.int .i64 z)).setCell ⟨G,j * 4 + 1,none⟩ (.int .i64 (z + 1))).setCell ⟨G,j * 4 + 2,none⟩ (.int .i64 (z + 1 + 1))):=fun i hi => (((hN.out i hi).set (j * 4) (by omega) _).set (j * 4 + 1) (by omega) _).set (j * 4 + 2) (by omega) _
   have hM3:Mid G hi w (((wr.setCell ⟨G,j * 4,none⟩ (.int .i64 z)).setCell ⟨G,j * 4 + 1,none⟩ (.int .i64 (z + 1))).setCell ⟨G,j * 4 + 2,none⟩ (.int .i64 (z + 1 + 1))):=((hM.out.set (p:=⟨G,j * 4,none⟩) ⟨Nat.le_refl _,by show G < hi;omega⟩ _).set (p:=⟨G,j * 4 + 1,none⟩) ⟨Nat.le_refl _,by show G < hi;omega⟩ _).set (p:=⟨G,j * 4 + 2,none⟩) ⟨Nat.le_refl _,by show G < hi;omega⟩ _
   have hF3:∀ o,(((wr.setCell ⟨G,j * 4,none⟩ (.int .i64 z)).setCell ⟨G,j * 4 + 1,none⟩ (.int .i64 (z + 1))).setCell ⟨G,j * 4 + 2,none⟩ (.int .i64 (z + 1 + 1))).frozen? ⟨G,o,none⟩ = false:=fun o => by simp only [World.frozen?_setCell];exact hF.out o
   clear hN hM hF hfz c0 c1 c2 h4 h5 h6
   generalize ((wr.setCell ⟨G,j * 4,none⟩ (.int .i64 z)).setCell ⟨G,j * 4 + 1,none⟩ (.int .i64 (z + 1))).setCell ⟨G,j * 4 + 2,none⟩ (.int .i64 (z + 1 + 1)) = w3 at *
   obtain ⟨_,_,_,g,n,h4,h5,h6,h7,h8,h9⟩:=hN3 j hlt
   have hmf:=mark_floats n g (z + 1 + 1 + 1) w3 h6 ⟨by omega,by omega⟩ h8 h9
   have hN:=Lib.hid hN3
   have hM:=Lib.hid hM3
   have hF:=Lib.hid hF3
   clear hN3 hM3 hF3 h8 h9
   go_wp2_with (go_at_call 140;refine hmf.mono ?_;rintro _ w4 ⟨rfl,hm4,hc4,hf4⟩;replace hm4:=Lib.hid hm4;replace hc4:=Lib.hid hc4;replace hf4:=Lib.hid hf4)
   exact ⟨⟨j + 1,z + 1 + 1 + 1 + (n:Int),by omega,by simp,rfl,by omega,by omega,hM.out.trans (hm4.out.widen (by omega) (by omega)),fun i hi => (hN.out i hi).mid hm4.out h4 hc4.out hf4.out,fun o => by rw [hf4.out];exact hF.out o⟩,by simp [intOf];omega⟩
  ·obtain rfl:j = m:=by omega
   have hM:=Lib.hid hmid
   clear hn hmid hfz
   go_wp2_with fail
   go_ret
   exact ⟨z,rfl,z0,hM.out,by omega⟩
end Go.Proofs.YtbiacfkiakddiaaGreat

namespace Go.Proofs.YtbiacfkiakddiaaGreat
open Go.RowKit Go.Fl
/-- The words of a statement's slots: a shape that is new;a result in memory. -/
def GdW (ns:List PN) (sl:List Tmp) (rs:Tmp) (Res:Value → World → Prop) (d:Tmp) (v:Value) (w:World):Prop :=
 (d ∈ sl → ∀ G,v = .agg #[.slice (some ⟨G,0,none⟩) ns.length ns.length] → ∀ i (h:i < ns.length),NodeNew ns[i] G (0 + i * 4) w) ∧ (d = rs → v = undef ∨ Res v w)
theorem gdw_lasts (ns:List PN) (sl:List Tmp) (rs:Tmp) {Res:Value → World → Prop} (hR:∀ v w w',Res v w → Below w.heap.size w w' → Res v w'):Qg.Lasts (GdW ns sl rs Res) :=
 ⟨fun d v w w' h hb => ⟨fun hd G hv i hi => (h.1 hd G hv i hi).keep hb,fun hd => (h.2 hd).imp id fun h => hR _ _ _ h hb⟩,fun d w => ⟨fun _ G hv => (by cases hv),fun _ => .inl rfl⟩⟩
theorem gdw_start {ns:List PN} {sl:List Tmp} {rs:Tmp} {Res:Value → World → Prop} {a:Act} {w:World} (h:∀ d ∈ sl ++ [rs],a.tmps.getD d undef = undef):Qg.E (GdW ns sl rs Res) [] a w :=
 ⟨fun d => ⟨fun hd G hv => (by rw [h d (by simp [hd])] at hv;cases hv),fun hd => .inl (by rw [h d (by simp [hd])])⟩,fun d hd => (by cases hd),fun d hd => (by cases hd)⟩
theorem gdw_no {ns:List PN} {sl:List Tmp} {rs:Tmp} {Res:Value → World → Prop} {d:Tmp} {v:Value} {w:World} (h1:d ∉ sl) (h2:d ≠ rs):Qg.gd (GdW ns sl rs Res) (some d) v w :=
 ⟨fun h => absurd h h1,fun h => absurd h h2⟩
theorem gdw_shape {ns:List PN} {sl:List Tmp} {rs:Tmp} {Res:Value → World → Prop} {d:Tmp} {G:Nat} {w:World} (h:∀ i (h:i < ns.length),NodeNew ns[i] G (0 + i * 4) w) (h2:d ≠ rs):Qg.gd (GdW ns sl rs Res) (some d) (.agg #[.slice (some ⟨G,0,none⟩) ns.length ns.length]) w :=
 ⟨fun _ G' hv => by injection hv with hv;injection hv with hv;injection hv with hv;injection hv with hv;injection hv with hv;injection hv with hv;subst hv;exact h,fun h => absurd h h2⟩
/-- A result that is told with a truth value. -/
def Rs2 (bv:Bool) (P:Value → World → Prop) (v:Value) (w:World):Prop:=∀ u,v = .tuple #[u,.bool bv] → P u w
theorem Rs2.keep {bv:Bool} {P:Value → World → Prop} (hP:∀ v w w',P v w → Below w.heap.size w w' → P v w') (v:Value) (w w':World) (h:Rs2 bv P v w) (hb:Below w.heap.size w w'):Rs2 bv P v w':=fun u hu => hP _ _ _ (h u hu) hb

inductive PhiW (n:Nat) (bv:Bool) (fs fi:FuncId):FuncId → Array Value → Value → Prop
 | shape (args:Array Value) (G:Nat):PhiW n bv fs fi 15 args (.agg #[.slice (some ⟨G,0,none⟩) n n])
 | box (a b c d e f:Nat):PhiW n bv fs fi 16 #[BoxV a b c d e f] (BoxV a b c d e f)
 | spec (args:Array Value) (u:Value):PhiW n bv fs fi fs args (.tuple #[u,.bool bv])
 | impl (args:Array Value) (u:Value):PhiW n bv fs fi fi args (.tuple #[u,.bool bv])
 | eqs (args:Array Value):PhiW n bv fs fi 19 args (.bool true)

/-- A shape that can be marked. -/
def ShW (n G hi:Nat) (w:World):Prop:=G < w.heap.size ∧ (∀ i,i < n → NodeM G (i * 4) hi w) ∧ ∀ o,w.frozen? ⟨G,o,none⟩ = false
theorem NodeM.keep {G o hi:Nat} {w w':World} (h:NodeM G o hi w) (hb:Below w.heap.size w w') (hh:hi ≤ w.heap.size):NodeM G o hi w':=by
 have l:=fun a (h:∃ v,w.cell? a = some v) => (show ∃ v,w'.cell? a = some v by obtain ⟨v,hv⟩:=h;exact ⟨v,by rw [lift hb a (by rw [hv];rfl)];exact hv⟩)
 obtain ⟨h1,h2,h3,g,n,h4,h5,h6,h7,h8,h9⟩:=h
 exact ⟨l _ h1,l _ h2,l _ h3,g,n,h4,h5,h6,by rw [lift hb _ (by rw [h7];rfl)];exact h7,fun i hi => l _ (h8 i hi),fun j => by rw [froz_keep (by omega) hb];exact h9 j⟩
theorem ShW.keep {n G hi:Nat} {w w':World} (h:ShW n G hi w) (hb:Below w.heap.size w w') (hh:hi ≤ w.heap.size):ShW n G hi w' :=
 ⟨Nat.lt_of_lt_of_le h.1 hb.size,fun i hi => (h.2.1 i hi).keep hb hh,fun o => by rw [froz_keep h.1 hb];exact h.2.2 o⟩
theorem shw_new {ns:List PN} (hn:∀ n ∈ ns,(n.nums.length:Int) ≤ 1048576) {G:Nat} {w:World} (h:∀ i (h:i < ns.length),NodeNew ns[i] G (0 + i * 4) w ∧ NumFree G (0 + i * 4) w) (hG:G < w.heap.size) (hf:∀ o,w.frozen? ⟨G,o,none⟩ = false):ShW ns.length G w.heap.size w :=
 ⟨hG,fun i hi => by
  obtain ⟨hN,hF⟩:=h i hi
  rw [Nat.zero_add] at hN hF
  obtain ⟨g,hg,hs,hc⟩:=hN.nums
  obtain ⟨g',n',m',hg',hs',hlt,hz⟩:=hF
  rw [hs] at hs'
  injection hs' with hs';injection hs' with e1 e2 e3;injection e1 with e1;injection e1 with e1
  subst e1
  exact ⟨⟨_,hN.kind⟩,⟨_,hN.a⟩,⟨_,hN.b⟩,g,_,hg,hlt,by have:=hn _ (List.getElem_mem hi);omega,hs,fun j hj => ⟨_,by have:=hc j hj;rw [Nat.zero_add] at this;exact this⟩,hz⟩,hf⟩

/-- Of the blocks that were there,only those from lo on,before hi,may have been written. -/
structure Mrk (lo hi:Nat) (w w':World):Prop where
 low:Below lo w w'
 high:∀ b,hi ≤ b → b < w.heap.size → w'.heap[b]? = w.heap[b]?

set_option maxRecDepth 100000 in
set_option maxHeartbeats 2000000 in
theorem mark_shapeB (n:Nat) (hn:n ≤ 1048576) (G hi:Nat) (k:Int) (hk:0 ≤ k ∧ k ≤ 10) (w:World) (h:ShW n G hi w) (hG:G < w.heap.size) (hh:hi ≤ w.heap.size) :
  Calls Tryz.prog 20 #[.agg #[.slice (some ⟨G,0,none⟩) n n],.int .i64 k] w (fun e w' => ∃ k',e = .returned (.int .i64 k') ∧ 0 ≤ k' ∧ Mrk G hi w w' ∧ k' ≤ 2000000000000):=by
 have Wb:Below w.heap.size w (w.alloc (.cells #[.slice (some ⟨G,0,none⟩) n n] 36)):=(Below.refl _ _).alloc (Nat.le_refl _) _
 have h1:=h.keep Wb hh
 have hc:=mark_nodesB n hn G hi k hk (w.alloc (.cells #[.slice (some ⟨G,0,none⟩) n n] 36)) h1.2.1 h1.2.2
 clear h1 h
 go_enter Tryz.func20,Tryz.ntmps20
 go_wp2_with (go_at_call 70;refine hc.mono ?_;rintro _ w2 ⟨k',rfl,hk',hm,hk2⟩;replace hm:=Lib.hid hm)
 go_ret
 exact ⟨k',rfl,hk',⟨((Below.refl _ _).alloc (Nat.le_of_lt hG) _).trans hm.out.low,fun b hb hlt => (hm.out.high b hb).trans (Wb.block b hlt)⟩,hk2⟩
end Go.Proofs.YtbiacfkiakddiaaGreat

namespace Go.Proofs.YtbiacfkiakddiaaGreat
open Go.RowKit Go.Fl
theorem zero_place {x:Nat} {s:Bool} {e:Int} (h:FloatKind.f32.decode x = .number s 0 e):e = -149:=by
 change Ieee.single.read x = _ at h
 unfold Ieee.Format.read at h
 simp only [bS,iS,sS,lpS] at h
 split at h
 ·injection h with h1 h2 h3
  exact h3.symm
 ·split at h
  ·injection h with h1 h2 h3
   omega
  ·split at h <;> cases h

theorem eq_zero {x:Nat} (h:FloatKind.f32.format.order x 0 = some .eq):∃ s,FloatKind.f32.decode x = .number s 0 (-149):=by
 have h0:FloatKind.f32.decode 0 = .number false 0 (-149):=by decide +kernel
 change (FloatKind.f32.decode x).order (FloatKind.f32.decode 0) = _ at h
 rw [h0] at h
 cases hx:FloatKind.f32.decode x with
 | nan s t => rw [hx] at h;cases h
 | infinity s => rw [hx] at h;cases s <;> cases h
 | number s m e =>
  rw [hx] at h
  have h1:some (compare (Ieee.signed s m (e - min e (-149)).toNat) (Ieee.signed false 0 (-149 - min e (-149)).toNat)) = some Ordering.eq:=h
  have hm:=abs_cmp0 (Option.some.inj h1)
  subst hm
  rw [zero_place hx]
  exact ⟨s,rfl⟩

theorem zw_size {x x':Nat} (hx:Zw .f32 x x'):Zw .f32 (sizeF x) (sizeS x'):=by
 have ho:FloatKind.f32.format.order x 0 = FloatKind.f32.format.order x' 0:=Zw.order hx (Zw.refl _ 0)
 unfold sizeF sizeS
 cases h:FloatKind.f32.format.order x 0 with
 | none =>
  have h1:ltk .f32 x 0 = false:=by unfold ltk;rw [h];rfl
  have h2:lek .f32 x' 0 = false:=by unfold lek;rw [← ho,h];rfl
  rw [h1,h2];exact hx
 | some o =>
  cases o with
  | lt =>
   have h1:ltk .f32 x 0 = true:=by unfold ltk;rw [h];rfl
   have h2:lek .f32 x' 0 = true:=by unfold lek;rw [← ho,h];rfl
   rw [h1,h2]
   exact Zw.trans (sub_neg h1) (Zw.sub (Zw.refl _ _) hx)
  | eq =>
   have h1:ltk .f32 x 0 = false:=by unfold ltk;rw [h];rfl
   have h2:lek .f32 x' 0 = true:=by unfold lek;rw [← ho,h];rfl
   rw [h1,h2]
   obtain ⟨s,hd⟩:=eq_zero h
   have h3:Zw .f32 x 0:=.inr ⟨s,false,-149,hd,by decide +kernel⟩
   have h4:Zw .f32 0 (B .sub 0 0):=by
    have:B .sub 0 0 = 0:=by decide +kernel
    rw [this];exact Zw.refl _ _
   have h5:Zw .f32 x' x:=Zd.symm hx
   exact Zw.trans h3 (Zw.trans h4 (Zw.sub (Zw.refl _ _) (Zd.symm (Zw.trans h5 h3))))
  | gt =>
   have h1:ltk .f32 x 0 = false:=by unfold ltk;rw [h];rfl
   have h2:lek .f32 x' 0 = false:=by unfold lek;rw [← ho,h];rfl
   rw [h1,h2];exact hx

/-- Points that differ at most in signs of zeros. -/
def Zv (p q:Nat × Nat × Nat):Prop:=Zw .f32 p.1 q.1 ∧ Zw .f32 p.2.1 q.2.1 ∧ Zw .f32 p.2.2 q.2.2
theorem Zv.refl (p:Nat × Nat × Nat):Zv p p:=⟨Zw.refl _ _,Zw.refl _ _,Zw.refl _ _⟩

theorem z_box {x y z x' y' z':Nat} (h1:Zw .f32 x x') (h2:Zw .f32 y y') (h3:Zw .f32 z z') (u v t:Nat):Zw .f32 (boxF x y z u v t) (boxS x' y' z' u v t):=by
 have R:=fun x => Zw.refl .f32 x
 have d:=Zw.sub (zw_size h1) (R u)
 have e:=Zw.sub (zw_size h2) (R v)
 have f:=Zw.sub (zw_size h3) (R t)
 unfold boxF boxS
 change Zw .f32 (B .sub (sizeF x) u) (B .sub (sizeS x') u) at d
 change Zw .f32 (B .sub (sizeF y) v) (B .sub (sizeS y') v) at e
 change Zw .f32 (B .sub (sizeF z) t) (B .sub (sizeS z') t) at f
 generalize B .sub (sizeF x) u = a1 at *
 generalize B .sub (sizeF y) v = a2 at *
 generalize B .sub (sizeF z) t = a3 at *
 generalize B .sub (sizeS x') u = b1 at *
 generalize B .sub (sizeS y') v = b2 at *
 generalize B .sub (sizeS z') t = b3 at *
 exact Zw.add (Zw.long (Zw.greater (R 0) d) (Zw.greater (R 0) e) (Zw.greater (R 0) f)) (Zw.lesser (R 0) (Zw.greater (Zw.greater d e) f))

theorem z_ring {x y z x' y' z':Nat} (h1:Zw .f32 x x') (h2:Zw .f32 y y') (h3:Zw .f32 z z') (u r:Nat):Zw .f32 (ringF x y z u r) (ringS x' y' z' u r):=by
 have i:Zw .f32 (B .sub (longF x 0 z) u) (B .sub (longF x' 0 z') u):=Zw.sub (Zw.long h1 (Zw.refl .f32 0) h3) (Zw.refl .f32 u)
 unfold ringF ringS
 generalize B .sub (longF x 0 z) u = a1 at *
 generalize B .sub (longF x' 0 z') u = b1 at *
 exact Zw.sub (Zw.long i h2 (Zw.refl .f32 0)) (Zw.refl .f32 r)

theorem z_leaf {n:PN} (hok:n.ok) (hc:(ruleF n.kind).2.1 = 0) {p q:Nat × Nat × Nat} (hp:Zv p q):Zw .f32 (leafF n p.1 p.2.1 p.2.2) (leafS n q.1 q.2.1 q.2.2):=by
 obtain ⟨h1,h2,h3⟩:=hp
 have R:=fun x => Zw.refl .f32 x
 have hr:=hok.kind
 have hl:=hok.nums
 obtain ⟨k,na,nb,nums⟩:=n
 simp only at *
 have:k = 0 ∨ k = 1 ∨ k = 2 ∨ k = 3 ∨ k = 4 ∨ k = 5 ∨ k = 6 ∨ k = 7 ∨ k = 8 ∨ k = 9 ∨ k = 10 ∨ k = 11 ∨ k = 12 ∨ k = 13 ∨ k = 14 ∨ k = 15 ∨ k = 16:=by omega
 rcases this with h | h | h | h | h | h | h | h | h | h | h | h | h | h | h | h | h <;> subst h
 ·obtain ⟨r,rfl⟩:=len1 hl
  exact (Zw.long h1 h2 h3).sub (R _)
 ·obtain ⟨r,s,t,rfl⟩:=len3 hl
  simp only [leafF,leafS,List.map_cons,List.map_nil]
  exact z_box h1 h2 h3 _ _ _
 ·obtain ⟨r,s,rfl⟩:=len2 hl
  exact (Zw.long h1 (h2.sub (((R 0).greater h2).lesser (R _))) h3).sub (R _)
 ·obtain ⟨r,s,rfl⟩:=len2 hl
  simp only [leafF,leafS,List.map_cons,List.map_nil]
  exact z_ring h1 h2 h3 _ _
 ·obtain ⟨r,s,t,u,rfl⟩:=len4 hl
  exact (Zw.inner h1 h2 h3 (R _) (R _) (R _)).sub (R _)
 all_goals exact absurd hc (by decide)

theorem z_smooth {a b a' b':Nat} (ha:Zw .f32 a a') (hb:Zw .f32 b b') (k:Nat):Zw .f32 (smoothF a b k) (smoothS a' b' k):=by
 have hh:=(Zw.refl .f32 k).sub (zw_size (ha.sub hb))
 have hg:=Zw.gtk hh (Zw.refl .f32 0)
 unfold smoothF smoothS bulgeF
 change gtk .f32 (B .sub k (sizeF (B .sub a b))) 0 = gtk .f32 (B .sub k (sizeS (B .sub a' b'))) 0 at hg
 rw [← hg]
 cases hc:gtk .f32 (B .sub k (sizeF (B .sub a b))) 0
 ·simp only [Bool.false_eq_true,if_false]
  exact ha.lesser hb
 ·simp only [if_true]
  exact (ha.lesser hb).sub ((hh.mul hh).quo _)

theorem z_mix {n:PN} (hok:n.ok) (hc:(ruleF n.kind).2.1 ≠ 0) {x y x' y':Nat} (hx:Zw .f32 x x') (hy:Zw .f32 y y'):Zw .f32 (mixF n x y) (mixS n x' y'):=by
 have R:=fun x => Zw.refl .f32 x
 have hr:=hok.kind
 have hl:=hok.nums
 obtain ⟨k,na,nb,nums⟩:=n
 simp only at *
 have:k = 0 ∨ k = 1 ∨ k = 2 ∨ k = 3 ∨ k = 4 ∨ k = 5 ∨ k = 6 ∨ k = 7 ∨ k = 8 ∨ k = 9 ∨ k = 10 ∨ k = 11 ∨ k = 12 ∨ k = 13 ∨ k = 14 ∨ k = 15 ∨ k = 16:=by omega
 rcases this with h | h | h | h | h | h | h | h | h | h | h | h | h | h | h | h | h <;> subst h
 iterate 5 exact absurd rfl hc
 ·exact hx.lesser hy
 ·exact hx.greater hy
 ·exact hx.greater hy.neg
 ·obtain ⟨r,rfl⟩:=len1 hl
  exact z_smooth hx hy _
 ·exact hx
 ·obtain ⟨r,rfl⟩:=len1 hl
  exact hx.mul (R _)
 ·exact hx
 ·exact hx
 ·exact hx
 ·exact hx
 ·obtain ⟨r,rfl⟩:=len1 hl
  exact hx.sub (R _)
 ·obtain ⟨r,rfl⟩:=len1 hl
  exact (zw_size hx).sub (R _)

theorem z_folded {c c':Nat} (hc:Zw .f32 c c') (s:Nat):Zw .f32 (foldedF c s) (foldedS c' s) :=
 zw_size (hc.sub ((Zw.refl _ _).mul (Zw.near (hc.quo _))))
theorem z_turn1 {i i' j j':Nat} (hi:Zw .f32 i i') (hj:Zw .f32 j j') (t:Nat):Zw .f32 (turn1 t i j) (turn1 t i' j') :=
 ((Zw.refl _ _).mul hi).add ((Zw.refl _ _).mul hj)
theorem z_turn2 {i i' j j':Nat} (hi:Zw .f32 i i') (hj:Zw .f32 j j') (t:Nat):Zw .f32 (turn2 t i j) (turn2 t i' j') :=
 ((Zw.refl _ _).mul hj).sub ((Zw.refl _ _).mul hi)

theorem z_point {n:PN} (hok:n.ok) (hc:(ruleF n.kind).2.1 = 1) {p q:Nat × Nat × Nat} (hp:Zv p q):Zv (pointF n p) (pointS n q):=by
 obtain ⟨h1,h2,h3⟩:=hp
 have R:=fun x => Zw.refl .f32 x
 have hr:=hok.kind
 have hl:=hok.nums
 have hax:=hok.axis
 obtain ⟨k,na,nb,nums⟩:=n
 obtain ⟨x,y,z⟩:=p
 obtain ⟨x',y',z'⟩:=q
 simp only at *
 have:k = 0 ∨ k = 1 ∨ k = 2 ∨ k = 3 ∨ k = 4 ∨ k = 5 ∨ k = 6 ∨ k = 7 ∨ k = 8 ∨ k = 9 ∨ k = 10 ∨ k = 11 ∨ k = 12 ∨ k = 13 ∨ k = 14 ∨ k = 15 ∨ k = 16:=by omega
 rcases this with h | h | h | h | h | h | h | h | h | h | h | h | h | h | h | h | h <;> subst h
 iterate 9 exact absurd hc (by decide)
 ·obtain ⟨r,s,t,rfl⟩:=len3 hl
  exact ⟨h1.sub (R _),h2.sub (R _),h3.sub (R _)⟩
 ·obtain ⟨r,rfl⟩:=len1 hl
  exact ⟨h1.quo _,h2.quo _,h3.quo _⟩
 ·obtain ⟨r,s,t,rfl⟩:=len3 hl
  exact ⟨h1.quo _,h2.quo _,h3.quo _⟩
 ·have hb0:nb = 0 ∨ nb = 1 ∨ nb = 2:=by
   rcases hax with h | h | ⟨_,h⟩
   ·exact absurd h (by decide)
   ·omega
   ·omega
  obtain ⟨r,rfl⟩:=len1 hl
  rcases hb0 with h | h | h <;> subst h
  ·exact ⟨h1,z_turn1 h2 h3 _,z_turn2 h2 h3 _⟩
  ·exact ⟨z_turn2 h3 h1 _,h2,z_turn1 h3 h1 _⟩
  ·exact ⟨z_turn1 h1 h2 _,z_turn2 h1 h2 _,h3⟩
 ·have hb0:nb = 0 ∨ nb = 1 ∨ nb = 2:=by
   rcases hax with h | h | ⟨_,h⟩
   ·exact absurd h (by decide)
   ·omega
   ·omega
  have hl0:nums = []:=List.length_eq_zero_iff.1 hl
  subst hl0
  rcases hb0 with h | h | h <;> subst h
  ·exact ⟨zw_size h1,h2,h3⟩
  ·exact ⟨h1,zw_size h2,h3⟩
  ·exact ⟨h1,h2,zw_size h3⟩
 ·have hb0:nb = 0 ∨ nb = 1 ∨ nb = 2:=by
   rcases hax with h | h | ⟨_,h⟩
   ·exact absurd h (by decide)
   ·omega
   ·omega
  obtain ⟨r,rfl⟩:=len1 hl
  rcases hb0 with h | h | h <;> subst h
  ·exact ⟨z_folded h1 _,h2,h3⟩
  ·exact ⟨h1,z_folded h2 _,h3⟩
  ·exact ⟨h1,h2,z_folded h3 _⟩
 ·exact ⟨h1,h2,h3⟩
 ·exact ⟨h1,h2,h3⟩

theorem pointS_two {n:PN} (hok:n.ok) (hc:(ruleF n.kind).2.1 = 2) (q:Nat × Nat × Nat):pointS n q = q:=by
 have hr:=hok.kind
 obtain ⟨k,na,nb,nums⟩:=n
 simp only at *
 have:k = 0 ∨ k = 1 ∨ k = 2 ∨ k = 3 ∨ k = 4 ∨ k = 5 ∨ k = 6 ∨ k = 7 ∨ k = 8 ∨ k = 9 ∨ k = 10 ∨ k = 11 ∨ k = 12 ∨ k = 13 ∨ k = 14 ∨ k = 15 ∨ k = 16:=by omega
 rcases this with h | h | h | h | h | h | h | h | h | h | h | h | h | h | h | h | h <;> subst h <;> first | rfl | exact absurd hc (by decide)
end Go.Proofs.YtbiacfkiakddiaaGreat
