/-
 Lemmas: L3,C3.
-/
import Derived.Test.YtbiacfkiakddiaaGreatJbj
set_option linter.unusedVariables false
set_option linter.unusedSimpArgs false
namespace Go.Proofs.YtbiacfkiakddiaaGreat
open Go.RowKit Go.Fl
/-- A node made anew comes back. -/
def RetN (n:PN) (w:World) (e:Ending) (w':World):Prop :=
 ∃ g,e = .returned (.agg #[.int .i64 n.kind,.int .i64 n.a,.int .i64 n.b,.slice (some ⟨g,0,none⟩) n.nums.length n.nums.length]) ∧ (∀ i (h:i < n.nums.length),w'.cell? ⟨g,0 + i,none⟩ = some (.float .f32 n.nums[i])) ∧ w.heap.size ≤ g ∧ Below w.heap.size w w'

set_option maxRecDepth 100000 in
set_option maxHeartbeats 2000000 in
theorem to_node (n:PN) (hlen:(n.nums.length:Int) ≤ 1048576) (bp:Option Addr) (bv ov cap:Nat) (w:World) (h1:n.nums ≠ [] → bp = some ⟨bv,ov,none⟩) (h2:∀ i (h:i < n.nums.length),w.cell? ⟨bv,ov + i,none⟩ = some (.float .f32 n.nums[i])) :
  Calls Tryz.prog 127 #[.agg #[.int .i64 n.kind,.int .i64 n.a,.int .i64 n.b,.slice bp n.nums.length cap]] w (RetN n w):=by
 have hc:∀ w',Below w.heap.size w w' → Calls Tryz.prog 203 #[.slice bp n.nums.length cap] w' (fun e w'' => ∃ g,e = .returned (.slice (some ⟨g,0,none⟩) n.nums.length n.nums.length) ∧ (∀ i (h:i < n.nums.length),w''.cell? ⟨g,0 + i,none⟩ = some (.float .f32 n.nums[i])) ∧ w'.heap.size ≤ g ∧ Below w'.heap.size w' w'') :=
  fun w' hb => to_floats n.nums hlen bp bv ov cap w' h1 (fun i h => by rw [lift hb _ (by rw [h2 i h];rfl)];exact h2 i h)
 clear h1 h2
 go_enter Tryz.func127,Tryz.ntmps127
 go_wp2_with fail
 have Wb:Below w.heap.size w (((w.alloc (.cells #[.int .i64 n.kind,.int .i64 n.a,.int .i64 n.b,.slice bp n.nums.length cap] 175)).alloc (.cells #[.int .i64 0,.int .i64 0,.int .i64 0,.slice none 0 0] 142)).alloc (.cells #[.int .i64 n.kind,.int .i64 n.a,.int .i64 n.b,.slice none 0 0] 142)):=(by repeat' (first | exact Below.refl _ _ | exact Nat.le_refl _ | refine below_drewN ?_ _ | refine Below.alloc ?_ (by first | (simp;done) | (simp;omega)) _ | refine Below.setCell ?_ (by first | (simp;done) | (simp;omega)) _ | refine below_step ?_ (by assumption)))

 have hkept:Kept [(⟨w.heap.size + 1,0,none⟩,.int .i64 0),(⟨w.heap.size + 1,1,none⟩,.int .i64 0),(⟨w.heap.size + 1,2,none⟩,.int .i64 0),(⟨w.heap.size + 1,3,none⟩,.slice none 0 0),(⟨w.heap.size + 1 + 1,0,none⟩,.int .i64 n.kind),(⟨w.heap.size + 1 + 1,1,none⟩,.int .i64 n.a),(⟨w.heap.size + 1 + 1,2,none⟩,.int .i64 n.b),(⟨w.heap.size + 1 + 1,3,none⟩,.slice none 0 0)] [⟨w.heap.size + 1,0,none⟩,⟨w.heap.size + 1,1,none⟩,⟨w.heap.size + 1,2,none⟩,⟨w.heap.size + 1,3,none⟩,⟨w.heap.size + 1 + 1,3,none⟩] (((w.alloc (.cells #[.int .i64 n.kind,.int .i64 n.a,.int .i64 n.b,.slice bp n.nums.length cap] 175)).alloc (.cells #[.int .i64 0,.int .i64 0,.int .i64 0,.slice none 0 0] 142)).alloc (.cells #[.int .i64 n.kind,.int .i64 n.a,.int .i64 n.b,.slice none 0 0] 142)):=by
  simp only [Kept,ka,kb,kc,kd,ke,and_true,true_and];(first | (go_simp;done) | (simp [World.cell?,World.frozen?,World.alloc,Array.getElem?_push];done))
 have hWs:(((w.alloc (.cells #[.int .i64 n.kind,.int .i64 n.a,.int .i64 n.b,.slice bp n.nums.length cap] 175)).alloc (.cells #[.int .i64 0,.int .i64 0,.int .i64 0,.slice none 0 0] 142)).alloc (.cells #[.int .i64 n.kind,.int .i64 n.a,.int .i64 n.b,.slice none 0 0] 142)).heap.size = w.heap.size + 1 + 1 + 1:=by simp
 generalize (((w.alloc (.cells #[.int .i64 n.kind,.int .i64 n.a,.int .i64 n.b,.slice bp n.nums.length cap] 175)).alloc (.cells #[.int .i64 0,.int .i64 0,.int .i64 0,.slice none 0 0] 142)).alloc (.cells #[.int .i64 n.kind,.int .i64 n.a,.int .i64 n.b,.slice none 0 0] 142)) = W at *
 refine (hc _ Wb).mono ?_
 rintro _ w2 ⟨g,rfl,hnum,hg,hb2⟩
 have W2b:=below_step Wb hb2
 have hkept2:=keep hkept hb2
 have hK:=hkept2
 simp only [Kept,ka,kb,kc,kd,ke,and_true,true_and] at hK
 have hgs:w.heap.size + 1 + 1 < g:=by omega
 have hH:=Lib.hid hnum
 clear hc hkept hb2 Wb hnum hkept2 hg hWs
 obtain ⟨hK1,hK2⟩:=hK
 go_wp2_with fail
 obtain ⟨hK1a,hK1b⟩:=hK1
 refine bodyPost_ret (v:=.agg #[.int .i64 n.kind,.int .i64 n.a,.int .i64 n.b,.slice (some ⟨g,0,none⟩) n.nums.length n.nums.length]) (by simp [results,Tryz.results127,go_sem,hK1a,hK1b,hK2]) rfl ⟨g,rfl,fun i hi => ?_,by omega,?_⟩
 ·rw [World.cell?_setCell_far _ _ _ _ (by show w.heap.size + 1 ≠ g;omega),World.cell?_setCell_far _ _ _ _ (by show w.heap.size + 1 ≠ g;omega),World.cell?_setCell_far _ _ _ _ (by show w.heap.size + 1 ≠ g;omega),World.cell?_setCell_far _ _ _ _ (by show w.heap.size + 1 ≠ g;omega),World.cell?_setCell_far _ _ _ _ (by show w.heap.size + 1 + 1 ≠ g;omega)]
  exact hH.out i hi
 ·exact ((((W2b.setCell (by show w.heap.size ≤ w.heap.size + 1 + 1;omega) _).setCell (by exact Nat.le_succ _) _).setCell (by exact Nat.le_succ _) _).setCell (by exact Nat.le_succ _) _).setCell (by exact Nat.le_succ _) _

/-- A node in a new list. -/
structure NodeNew (n:PN) (G o:Nat) (w:World):Prop where
 kind:w.cell? ⟨G,o,none⟩ = some (.int .i64 n.kind)
 a:w.cell? ⟨G,o + 1,none⟩ = some (.int .i64 n.a)
 b:w.cell? ⟨G,o + 2,none⟩ = some (.int .i64 n.b)
 nums:∃ g,G < g ∧ w.cell? ⟨G,o + 3,none⟩ = some (.slice (some ⟨g,0,none⟩) n.nums.length n.nums.length) ∧ ∀ i (h:i < n.nums.length),w.cell? ⟨g,0 + i,none⟩ = some (.float .f32 n.nums[i])

theorem NodeNew.into {n:PN} {G o:Nat} {w:World} (h:NodeNew n G o w):NodeIn n G o w:=by
 obtain ⟨g,-,h1,h2⟩:=h.nums
 exact ⟨h.kind,h.a,h.b,some ⟨g,0,none⟩,g,0,_,h1,fun _ => rfl,h2⟩

theorem NodeNew.keep {n:PN} {G o:Nat} {w w':World} (h:NodeNew n G o w) (hb:Below w.heap.size w w'):NodeNew n G o w':=by
 have l:=fun a v (h:w.cell? a = some v) => (show w'.cell? a = some v by rw [lift hb a (by rw [h];rfl)];exact h)
 obtain ⟨g,h0,h1,h2⟩:=h.nums
 exact ⟨l _ _ h.kind,l _ _ h.a,l _ _ h.b,g,h0,l _ _ h1,fun i hi => l _ _ (h2 i hi)⟩

theorem NodeNew.far {n:PN} {G o:Nat} {w:World} (h:NodeNew n G o w) (p:Addr) (hp:p.block < G) (v:Value):NodeNew n G o (w.setCell p v):=by
 obtain ⟨g,h0,h1,h2⟩:=h.nums
 have l:∀ b k,p.block ≠ b → (w.setCell p v).cell? ⟨b,k,none⟩ = w.cell? ⟨b,k,none⟩:=fun b k hb => World.cell?_setCell_far _ _ _ _ hb
 exact ⟨by rw [l _ _ (by omega)];exact h.kind,by rw [l _ _ (by omega)];exact h.a,by rw [l _ _ (by omega)];exact h.b,g,h0,by rw [l _ _ (by omega)];exact h1,fun i hi => by rw [l _ _ (by omega)];exact h2 i hi⟩

theorem NodeNew.set {n:PN} {G o:Nat} {w:World} (h:NodeNew n G o w) (j:Nat) (hj:j < o ∨ o + 4 ≤ j) (v:Value):NodeNew n G o (w.setCell ⟨G,j,none⟩ v):=by
 have l:=fun k u (hk:o ≤ k ∧ k < o + 4) (h:w.cell? ⟨G,k,none⟩ = some u) => (show (w.setCell ⟨G,j,none⟩ v).cell? ⟨G,k,none⟩ = some u by
  exact (World.cell?_setCell_other (w:=w) (a:=⟨G,j,none⟩) (b:=⟨G,k,none⟩) (v:=v) (by intro e;injection e with _ e;omega)).trans h)
 obtain ⟨g,h0,h1,h2⟩:=h.nums
 exact ⟨l _ _ (by omega) h.kind,l _ _ (by omega) h.a,l _ _ (by omega) h.b,g,h0,l _ _ (by omega) h1,fun i hi => by rw [World.cell?_setCell_far _ _ _ _ (by show G ≠ g;omega)];exact h2 i hi⟩

theorem NodeNew.made {n:PN} {G o g:Nat} {w:World} {A:Array Value} {T:TypeId} (hA:w.heap[G]? = some (.cells A T (0,0))) (hs:o + 4 ≤ A.size) (hg:G < g) (h2:∀ i (h:i < n.nums.length),w.cell? ⟨g,0 + i,none⟩ = some (.float .f32 n.nums[i])) :
  NodeNew n G o ((((w.setCell ⟨G,o,none⟩ (.int .i64 n.kind)).setCell ⟨G,o + 1,none⟩ (.int .i64 n.a)).setCell ⟨G,o + 2,none⟩ (.int .i64 n.b)).setCell ⟨G,o + 3,none⟩ (.slice (some ⟨g,0,none⟩) n.nums.length n.nums.length)):=by
 have h4:=arr_set (arr_set (arr_set (arr_set hA o (.int .i64 n.kind)) (o + 1) (.int .i64 n.a)) (o + 2) (.int .i64 n.b)) (o + 3) (.slice (some ⟨g,0,none⟩) n.nums.length n.nums.length)
 have hf:∀ i,((((w.setCell ⟨G,o,none⟩ (.int .i64 n.kind)).setCell ⟨G,o + 1,none⟩ (.int .i64 n.a)).setCell ⟨G,o + 2,none⟩ (.int .i64 n.b)).setCell ⟨G,o + 3,none⟩ (.slice (some ⟨g,0,none⟩) n.nums.length n.nums.length)).cell? ⟨g,i,none⟩ = w.cell? ⟨g,i,none⟩:=fun i => by
  rw [World.cell?_setCell_far _ _ _ _ (by show G ≠ g;omega),World.cell?_setCell_far _ _ _ _ (by show G ≠ g;omega),World.cell?_setCell_far _ _ _ _ (by show G ≠ g;omega),World.cell?_setCell_far _ _ _ _ (by show G ≠ g;omega)]
 have e0:o < A.size:=by omega
 have e1:o + 1 < A.size:=by omega
 have e2:o + 2 < A.size:=by omega
 have e3:o + 3 < A.size:=by omega
 refine ⟨?_,?_,?_,g,hg,?_,fun i hi => by rw [hf];exact h2 i hi⟩
 all_goals rw [arr_cell h4]
 ·rw [Array.getElem?_setIfInBounds_ne (by omega),Array.getElem?_setIfInBounds_ne (by omega),Array.getElem?_setIfInBounds_ne (by omega),Array.getElem?_setIfInBounds_self_of_lt e0]
 ·rw [Array.getElem?_setIfInBounds_ne (by omega),Array.getElem?_setIfInBounds_ne (by omega),Array.getElem?_setIfInBounds_self_of_lt (by simpa using e1)]
 ·rw [Array.getElem?_setIfInBounds_ne (by omega),Array.getElem?_setIfInBounds_self_of_lt (by simpa using e2)]
 ·rw [Array.getElem?_setIfInBounds_self_of_lt (by simpa using e3)]

theorem node_info:(Tryz.prog.info? 142).map (fun i => (i.zero,i.size,i.bytes)) = some (some (.agg #[.int .i64 0,.int .i64 0,.int .i64 0,.slice none 0 0]),4,48):=by kernel_rfl

theorem make_nodes (n:Nat) (hn:(n:Int) ≤ 1048576) (w:World):∃ A:Array Value,A.size = n * 4 ∧ (Instr.makeSlice 34 (.int .i64 (n:Int)) (.int .i64 (n:Int))).run Tryz.prog w = .ok (.slice (some ⟨w.heap.size,0,none⟩) n n) (w.alloc (.cells A 142)):=by
 obtain ⟨i0,hi,hz0,hz1,hz2⟩:=info_parts node_info
 have h:=run_make (P:=Tryz.prog) w 34 142 i0 _ Tryz.underlying34 hi hz0 .i64 .i64 n n (by omega) (by omega) (by rw [hz2];omega) (by omega)
 rw [hz1] at h
 refine ⟨_,?_,h⟩
 simp [madeCells]

set_option maxRecDepth 100000 in
set_option maxHeartbeats 4000000 in
theorem to_nodes (ns:List PN) (hlen:(ns.length:Int) ≤ 1048576) (hnum:∀ n ∈ ns,(n.nums.length:Int) ≤ 1048576) (bp:Option Addr) (nb no cap:Nat) (w:World) (hns:NodesIn ns bp nb no w) :
  Calls Tryz.prog 63 #[.slice bp ns.length cap] w (fun e w' => ∃ G,e = .returned (.slice (some ⟨G,0,none⟩) ns.length ns.length) ∧ (∀ i (h:i < ns.length),NodeNew ns[i] G (0 + i * 4) w') ∧ w.heap.size ≤ G ∧ Below w.heap.size w w'):=by
 obtain ⟨A,hA,hmk⟩:=make_nodes ns.length hlen w
 go_enter Tryz.func63,Tryz.ntmps63
 go_wp2_with fail
 have W1b:Below w.heap.size w (w.alloc (.cells A 142)):=(by repeat' (first | exact Below.refl _ _ | exact Nat.le_refl _ | refine below_drewN ?_ _ | refine Below.alloc ?_ (by first | (simp;done) | (simp;omega)) _ | refine Below.setCell ?_ (by first | (simp;done) | (simp;omega)) _ | refine below_step ?_ (by assumption)))

 have hpar:=heap_alloc_at w (.cells A 142)
 generalize w.alloc (.cells A 142) = W1 at *
 clear hmk
 go_loopw [4] (fun i wr => ∃ (m:Nat) (A:Array Value),m ≤ ns.length ∧ i = .int .i64 (m:Int) ∧ A.size = ns.length * 4 ∧ wr.heap[w.heap.size]? = some (.cells A 142 (0,0)) ∧ (∀ k (h:k < ns.length),k < m → NodeNew ns[k] w.heap.size (k * 4) wr) ∧ Below w.heap.size w wr) (fun i _ => ns.length - (intOf i).toNat)
 case atStart => exact ⟨0,A,by omega,rfl,hA,hpar,fun k _ h => by omega,W1b⟩
 case round =>
  obtain ⟨m,A',hm,rfl,hA',hpar',hk,Wb⟩:=hrel
  clear hpar W1b
  by_cases hlt:m < ns.length
  ·have hlt':(m:Int) < (ns.length:Int):=by omega
   have h0:(0:Int) ≤ (m:Int):=by omega
   have hne:ns ≠ []:=by intro h;rw [h] at hlt;simp at hlt
   have hbp:=hns.ptr hne
   subst hbp
   have hn:=(hns.node m hlt).keep Wb
   have hnl:=hnum ns[m] (List.getElem_mem _)
   obtain ⟨np,nv,nvo,ncap,hn4,hn5,hn6⟩:=hn.nums
   have hn1:=hn.kind
   have hn2:=hn.a
   have hn3:=hn.b
   have hGs:w.heap.size < wr.heap.size:=(Array.getElem?_eq_some_iff.1 hpar').1
   have hc:=to_node ns[m] hnl np nv nvo ncap wr hn5 hn6
   have hkeep:∀ w2,Below wr.heap.size wr w2 → ∀ k (h:k < ns.length),k < m → NodeNew ns[k] w.heap.size (k * 4) w2:=fun w2 hb k h hkm => (hk k h hkm).keep hb
   have hHk:=Lib.hid hkeep
   have hHp:=Lib.hid hpar'
   have hHns:=Lib.hid hns
   have hHnum:=Lib.hid hnum
   have hnm:ns[m] = ns[m]:=rfl
   clear hn hn5 hn6 hnl hk hkeep hpar' hns hnum hnm
   have hold:Hid (ns[m] = ns[m]):=rfl
   generalize hgn:ns[m] = n at hn1 hn2 hn3 hn4 hc
   have hHgn:=Lib.hid hgn
   clear hgn hold
   go_wp2_with fail
   refine hc.mono ?_
   rintro _ w2 ⟨g,rfl,hg2,hgs,hb2⟩
   have hpar2:w2.heap[w.heap.size]? = some (.cells A' 142 (0,0)):=by rw [hb2.block _ hGs];exact hHp.out
   have hcell:∀ j (hj:j < 4),w2.cell? ⟨w.heap.size,m * 4 + j,none⟩ = some (A'[m * 4 + j]'(by omega)):=fun j hj => by rw [arr_cell hpar2,Array.getElem?_eq_getElem (by omega)]
   have hc0:w2.cell? ⟨w.heap.size,m * 4,none⟩ = some (A'[m * 4]'(by omega)):=by rw [arr_cell hpar2,Array.getElem?_eq_getElem (by omega)]
   have hc1:=hcell 1 (by omega)
   have hc2:=hcell 2 (by omega)
   have hc3:=hcell 3 (by omega)
   have hfz:=arr_frozen hpar2
   have hmade:=NodeNew.made (n:=n) (o:=m * 4) hpar2 (by omega) (show w.heap.size < g by omega) hg2
   have h4:=arr_set (arr_set (arr_set (arr_set hpar2 (m * 4) (.int .i64 n.kind)) (m * 4 + 1) (.int .i64 n.a)) (m * 4 + 2) (.int .i64 n.b)) (m * 4 + 3) (.slice (some ⟨g,0,none⟩) n.nums.length n.nums.length)
   have hb4:=((((below_step Wb hb2).setCell (p:=⟨w.heap.size,m * 4,none⟩) (Nat.le_refl _) (.int .i64 n.kind)).setCell (p:=⟨w.heap.size,m * 4 + 1,none⟩) (Nat.le_refl _) (.int .i64 n.a)).setCell (p:=⟨w.heap.size,m * 4 + 2,none⟩) (Nat.le_refl _) (.int .i64 n.b)).setCell (p:=⟨w.heap.size,m * 4 + 3,none⟩) (Nat.le_refl _) (.slice (some ⟨g,0,none⟩) n.nums.length n.nums.length)
   have hall:Hid (∀ k (h:k < ns.length),k < m + 1 → NodeNew ns[k] w.heap.size (k * 4) ((((w2.setCell ⟨w.heap.size,m * 4,none⟩ (.int .i64 n.kind)).setCell ⟨w.heap.size,m * 4 + 1,none⟩ (.int .i64 n.a)).setCell ⟨w.heap.size,m * 4 + 2,none⟩ (.int .i64 n.b)).setCell ⟨w.heap.size,m * 4 + 3,none⟩ (.slice (some ⟨g,0,none⟩) n.nums.length n.nums.length))):=fun k h hkm => by
    by_cases hkm':k = m
    ·subst hkm'
     rw [hHgn.out];exact hmade
    ·exact (((((hHk.out w2 hb2 k h (by omega)).set _ (by omega) _).set _ (by omega) _).set _ (by omega) _).set _ (by omega) _)
   have hH4:=Lib.hid h4
   clear hcell hmade h4 hpar2 hg2 hc hb2
   go_wp2_with fail
   exact ⟨⟨m + 1,_,by omega,by simp,by simpa using hA',hH4.out,hall.out,hb4⟩,by simp [intOf];omega⟩
  ·obtain rfl:m = ns.length:=by omega
   have hH:=Lib.hid hk
   clear hk hpar' hns hnum
   go_wp2_with fail
   go_ret
   exact ⟨w.heap.size,rfl,fun i hi => by rw [Nat.zero_add];exact hH.out i hi hi,Nat.le_refl _,Wb⟩
end Go.Proofs.YtbiacfkiakddiaaGreat

namespace Go.Proofs.YtbiacfkiakddiaaGreat
open Go.RowKit Go.Fl
/-- A list of one's own is written. -/
theorem row_set {w:World} {base:Nat} {e:TypeId} {size g n cap:Nat} {xs:List Value} (h:w.ownsRow base e size (.slice (some ⟨g,0,none⟩) n cap) n xs) (j:Nat) (u:Value) (hj:j < n * size) :
  (w.setCell ⟨g,j,none⟩ u).ownsRow base e size (.slice (some ⟨g,0,none⟩) n cap) n (xs.set j u):=by
 obtain ⟨hl,h⟩:=h
 rcases h with ⟨h0,_⟩ | ⟨g',cap',cur,hv,hb,hg,hc,hm,hs,ht⟩
 ·cases h0
 ·injection hv with hv1 _ hv2;injection hv1 with hv1;injection hv1 with hv1;subst hv1;subst hv2
  refine ⟨by simpa using hl,.inr ⟨g,cap,cur.setIfInBounds j u,rfl,hb,arr_set hg j u,hc,hm,by simpa using hs,?_⟩⟩
  rw [Array.toList_setIfInBounds,List.take_set,ht]
theorem row_froz {w:World} {base:Nat} {e:TypeId} {size g n cap:Nat} {xs:List Value} (h:w.ownsRow base e size (.slice (some ⟨g,0,none⟩) n cap) n xs) (j:Nat):w.frozen? ⟨g,j,none⟩ = false:=by
 rcases h.2 with ⟨h0,_⟩ | ⟨g',cap',cur,hv,hb,hg,hc,hm,hs,ht⟩
 ·cases h0
 ·injection hv with hv1 _ hv2;injection hv1 with hv1;injection hv1 with hv1;subst hv1
  exact arr_frozen hg j
theorem row_form {w:World} {base:Nat} {e:TypeId} {size n:Nat} {v:Value} {xs:List Value} (h:w.ownsRow base e size v n xs):(v = .slice none 0 0 ∧ n = 0) ∨ ∃ g cap,v = .slice (some ⟨g,0,none⟩) n cap ∧ base ≤ g ∧ g < w.heap.size:=by
 rcases h.2 with h0 | ⟨g,cap,cur,hv,hb,hg,_⟩
 ·exact .inl h0
 ·exact .inr ⟨g,cap,hv,hb,(Array.getElem?_eq_some_iff.1 hg).1⟩
theorem row_nil (w:World) (base:Nat) (e:TypeId) (size:Nat):w.ownsRow base e size (.slice none 0 0) 0 []:=⟨by simp,.inl ⟨rfl,rfl⟩⟩

/-- A list of integers that can be read. -/
def IlRd (v:Value) (xs:List Int) (w:World):Prop:=∃ bp g cap,v = .slice bp xs.length cap ∧ (xs ≠ [] → bp = some ⟨g,0,none⟩) ∧ ∀ i (h:i < xs.length),w.cell? ⟨g,i,none⟩ = some (.int .i64 xs[i])
theorem IlRd.keep {v:Value} {xs:List Int} {w w':World} (h:IlRd v xs w) (hb:Below w.heap.size w w'):IlRd v xs w':=by
 obtain ⟨bp,g,cap,h1,h2,h3⟩:=h
 exact ⟨bp,g,cap,h1,h2,fun i hi => by rw [lift hb _ (by rw [h3 i hi];rfl)];exact h3 i hi⟩
theorem il_read {lo:Nat} {v:Value} {xs:List Int} {w:World} (h:w.ownsRow lo 2 1 v xs.length (il xs)):IlRd v xs w:=by
 rcases row_form h with ⟨rfl,h0⟩ | ⟨g,cap,rfl,_,_⟩
 ·exact ⟨none,0,0,by rw [h0],fun hne => absurd (List.length_eq_zero_iff.1 h0) hne,fun i hi => by omega⟩
 ·refine ⟨_,g,cap,rfl,fun _ => rfl,fun i hi => ?_⟩
  have:=h.cellAt i (by omega)
  rw [show (il xs)[i]? = some (.int .i64 xs[i]) by simp [il,hi]] at this
  simpa using this

set_option maxRecDepth 100000 in
set_option maxHeartbeats 2000000 in
theorem eq_ints (xs:List Int) (hn:xs.length ≤ 1000000) (v u:Value) (w:World) (h1:IlRd v xs w) (h2:IlRd u xs w) :
  Calls Tryz.prog 35 #[v,u] w (fun e w' => e = .returned (.bool true) ∧ Below w.heap.size w w'):=by
 obtain ⟨bp,g,cap,rfl,hg,hc⟩:=h1
 obtain ⟨bp',g',cap',rfl,hg',hc'⟩:=h2
 have hnI:(xs.length:Int) ≤ 9223372036854775807:=by omega
 go_enter Tryz.func35,Tryz.ntmps35
 go_wp2_with fail
 go_loopw [5] (fun i wr => ∃ (m:Nat),m ≤ xs.length ∧ i = .int .i64 (m:Int) ∧ Below w.heap.size w wr) (fun i _ => xs.length - (intOf i).toNat)
 case atStart => exact ⟨0,by omega,rfl,Below.refl _ _⟩
 case round =>
  obtain ⟨m,hm,rfl,Wb⟩:=hrel
  by_cases hlt:m < xs.length
  ·have hlt':(m:Int) < (xs.length:Int):=by omega
   have h0:(0:Int) ≤ (m:Int):=by omega
   have hne:xs ≠ []:=by intro h;rw [h] at hlt;simp at hlt
   have e1:=hg hne
   have e2:=hg' hne
   subst e1;subst e2
   have c1:wr.cell? ⟨g,m,none⟩ = some (.int .i64 xs[m]):=by rw [lift Wb _ (by rw [hc m hlt];rfl)];exact hc m hlt
   have c2:wr.cell? ⟨g',m,none⟩ = some (.int .i64 xs[m]):=by rw [lift Wb _ (by rw [hc' m hlt];rfl)];exact hc' m hlt
   generalize xs[m] = x at c1 c2
   have hkept:Kept [(⟨g,m,none⟩,.int .i64 x),(⟨g',m,none⟩,.int .i64 x)] [] wr:=by simp only [Kept,ka,kb,kc,kd,ke,and_true,true_and];simp [c1,c2]
   clear hc hc' hg hg' c1 c2
   go_upto_region 6 with fail
   refine Qr.wp_below_all (by kernel_rfl) (by kernel_rfl) (fun _ _ _ => False) ?_
   repeat (refine Qr.walk_plain rfl fun K hK => ?_;apply Qr.one_det;(focus (intro w' hw';have HK:=keep hkept hw';simp only [Kept,ka,kb,kc,kd,ke,and_true,true_and] at HK;go_simp;first | done | rfl));go_simp;refine hK _ ?_;clear hK K)
   refine Qr.walk_nil fun w6 hw6 => ?_
   go_wp2_with fail
   exact ⟨⟨m + 1,by omega,by simp,below_step Wb hw6⟩,by simp [intOf];omega⟩
  ·obtain rfl:m = xs.length:=by omega
   clear hc hc'
   go_wp2_with fail
   go_ret
   exact ⟨rfl,Wb⟩

/-- Integers that are marked. -/
def mkI (xs:List Int) (k:Int):Nat → List Int
 | 0 => xs
 | j + 1 => (mkI xs k j).set j (k + (j:Int))
theorem mkI_len (xs:List Int) (k:Int):∀ j,(mkI xs k j).length = xs.length
 | 0 => rfl
 | j + 1 => by rw [mkI,List.length_set,mkI_len]
theorem mkI_get (xs:List Int) (k:Int):∀ (j i:Nat),i < j → i < xs.length → (mkI xs k j)[i]? = some (k + (i:Int))
 | j + 1,i,h,hl => by
  rw [mkI]
  by_cases e:j = i
  ·subst e;rw [List.getElem?_set_self (by rw [mkI_len];exact hl)]
  ·rw [List.getElem?_set_ne e];exact mkI_get xs k j i (by omega) hl

set_option maxRecDepth 100000 in
set_option maxHeartbeats 2000000 in
theorem mark_ints (xs:List Int) (hn:xs.length ≤ 1000000) (lo:Nat) (v:Value) (k:Int) (hk:0 ≤ k ∧ k ≤ 1000000000) (w:World) (h:w.ownsRow lo 2 1 v xs.length (il xs)) :
  Calls Tryz.prog 38 #[v,.int .i64 k] w (fun e w' => e = .returned (.int .i64 (k + (xs.length:Int))) ∧ w'.ownsRow lo 2 1 v xs.length (il (mkI xs k xs.length)) ∧ Below lo w w'):=by
 obtain ⟨k0,k1⟩:=hk
 have hnI:(xs.length:Int) ≤ 9223372036854775807:=by omega
 rcases row_form h with ⟨rfl,h0⟩ | ⟨g,cap,rfl,hlo,hgl⟩
 ·obtain rfl:=List.length_eq_zero_iff.1 h0
  go_enter Tryz.func38,Tryz.ntmps38
  go_wp2_with fail
  go_loopw [1,5] (fun q i wr => i = .int .i64 0 ∧ q = .int .i64 k ∧ wr = w) (fun _ _ _ => 0)
  case atStart => exact ⟨rfl,rfl,rfl⟩
  case round =>
   obtain ⟨rfl,rfl,rfl⟩:=hrel
   go_wp2_with fail
   go_ret
   exact ⟨by simp,h,Below.refl _ _⟩
 go_enter Tryz.func38,Tryz.ntmps38
 go_wp2_with fail
 go_loopw [1,5] (fun q i wr => ∃ (m:Nat),m ≤ xs.length ∧ i = .int .i64 (m:Int) ∧ q = .int .i64 (k + (m:Int)) ∧ wr.ownsRow lo 2 1 (.slice (some ⟨g,0,none⟩) xs.length cap) xs.length (il (mkI xs k m)) ∧ Below lo w wr) (fun _ i _ => xs.length - (intOf i).toNat)
 case atStart => exact ⟨0,by omega,rfl,by simp,h,Below.refl _ _⟩
 case round =>
  obtain ⟨m,hm,rfl,rfl,hown,Wb⟩:=hrel
  by_cases hlt:m < xs.length
  ·have hlt':(m:Int) < (xs.length:Int):=by omega
   have h0:(0:Int) ≤ (m:Int):=by omega
   have hc:=hown.cellAt m (by omega)
   have hl:=mkI_len xs k m
   rw [show (il (mkI xs k m))[m]? = some (.int .i64 ((mkI xs k m)[m]'(by omega))) by simp [il,hl,hlt]] at hc
   generalize (mkI xs k m)[m]'(by omega) = x at hc
   have hz:=row_froz hown m
   have hset:=Lib.hid (row_set hown m (.int .i64 (k + (m:Int))) (by omega))
   have hB:=Lib.hid (Wb.setCell (p:=⟨g,m,none⟩) hlo (.int .i64 (k + (m:Int))))
   clear hown h
   go_wp2_with fail
   have hE:k + (m:Int) + 1 = k + ((m + 1:Nat):Int):=by omega
   exact ⟨⟨m + 1,by omega,by simp,by rw [hE],by rw [mkI,il,List.map_set];exact hset.out,hB.out⟩,by simp [intOf];omega⟩
  ·obtain rfl:m = xs.length:=by omega
   have hH:=Lib.hid hown
   clear hown h
   go_wp2_with fail
   go_ret
   exact ⟨rfl,hH.out,Wb⟩

set_option maxRecDepth 100000 in
set_option maxHeartbeats 2000000 in
theorem held_ints (xs:List Int) (hn:xs.length ≤ 1000000) (v:Value) (k:Int) (hk:0 ≤ k ∧ k ≤ 1000000000) (w:World) (h:IlRd v (mkI xs k xs.length) w) :
  Calls Tryz.prog 39 #[v,.int .i64 k] w (fun e w' => e = .returned (.int .i64 (k + (xs.length:Int))) ∧ Below w.heap.size w w'):=by
 obtain ⟨k0,k1⟩:=hk
 have hnI:(xs.length:Int) ≤ 9223372036854775807:=by omega
 obtain ⟨bp,g,cap,rfl,hg,hc⟩:=h
 rw [mkI_len]
 have hc2:∀ i,i < xs.length → w.cell? ⟨g,i,none⟩ = some (.int .i64 (k + (i:Int))):=fun i hi => by
  have h1:=hc i (by rw [mkI_len];exact hi)
  have h2:=mkI_get xs k xs.length i hi hi
  rw [List.getElem?_eq_getElem (by rw [mkI_len];exact hi)] at h2
  injection h2 with h2
  rw [h1,h2]
 have hg2:xs.length ≠ 0 → bp = some ⟨g,0,none⟩:=fun h0 => hg (by intro e;have:=mkI_len xs k xs.length;rw [e] at this;exact h0 this.symm)
 clear hc hg
 go_enter Tryz.func39,Tryz.ntmps39
 go_wp2_with fail
 go_loopw [1,5] (fun q i wr => ∃ (m:Nat),m ≤ xs.length ∧ i = .int .i64 (m:Int) ∧ q = .int .i64 (k + (m:Int)) ∧ Below w.heap.size w wr) (fun _ i _ => xs.length - (intOf i).toNat)
 case atStart => exact ⟨0,by omega,rfl,by simp,Below.refl _ _⟩
 case round =>
  obtain ⟨m,hm,rfl,rfl,Wb⟩:=hrel
  by_cases hlt:m < xs.length
  ·have hlt':(m:Int) < (xs.length:Int):=by omega
   have h0:(0:Int) ≤ (m:Int):=by omega
   have e1:=hg2 (by omega)
   subst e1
   have c1:wr.cell? ⟨g,m,none⟩ = some (.int .i64 (k + (m:Int))):=by rw [lift Wb _ (by rw [hc2 m hlt];rfl)];exact hc2 m hlt
   clear hc2 hg2
   go_wp2_with fail
   have hE:k + (m:Int) + 1 = k + ((m + 1:Nat):Int):=by omega
   exact ⟨⟨m + 1,by omega,by simp,by rw [hE],by first | exact Wb | exact Wb.drew⟩,by simp [intOf];omega⟩
  ·obtain rfl:m = xs.length:=by omega
   clear hc2
   go_wp2_with fail
   go_ret
   exact ⟨rfl,Wb⟩
end Go.Proofs.YtbiacfkiakddiaaGreat
