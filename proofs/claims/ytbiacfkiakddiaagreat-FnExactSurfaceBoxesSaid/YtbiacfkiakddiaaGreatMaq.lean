/-
 Lemmas: L3,L5,U1.
-/
import Derived.Test.YtbiacfkiakddiaaGreatMap
set_option linter.unusedVariables false
set_option linter.unusedSimpArgs false
namespace Go.Proofs.YtbiacfkiakddiaaGreat
open Go.RowKit Go.Fl
/-- A node made anew comes back. -/
def RetN (n:PN) (w:World) (e:Ending) (w':World):Prop :=
 ∃ g,e = .returned (.agg #[.int .i64 n.kind,.int .i64 n.a,.int .i64 n.b,.slice (some ⟨g,0,none⟩) n.nums.length n.nums.length]) ∧ (∀ i (h:i < n.nums.length),w'.cell? ⟨g,0 + i,none⟩ = some (.float .f32 n.nums[i])) ∧ w.heap.size ≤ g ∧ Below w.heap.size w w'

set_option maxRecDepth 100000 in
set_option maxHeartbeats 2000000 in
theorem to_node (n:PN) (hlen:(n.nums.length:Int) ≤ 1048576) (bp:Option Addr) (bv ov cap:Nat) (w:World) (h1:n.nums ≠ [] → bp = some ⟨bv,ov,none⟩) (h2:∀ i (h:i < n.nums.length),w.cell? ⟨bv,ov + i,none⟩ = some (.float .f32 n.nums[i])) :
  Calls Tryz.prog 127 #[.agg #[.int .i64 n.kind,.int .i64 n.a,.int .i64 n.b,.slice bp n.nums.length cap]] w (RetN n w):=by
 have hc:∀ w',Below w.heap.size w w' → Calls Tryz.prog 203 #[.slice bp n.nums.length cap] w' (fun e w'' => ∃ g,e = .returned (.slice (some ⟨g,0,none⟩) n.nums.length n.nums.length) ∧ (∀ i (h:i < n.nums.length),w''.cell? ⟨g,0 + i,none⟩ = some (.float .f32 n.nums[i])) ∧ w'.heap.size ≤ g ∧ Below w'.heap.size w' w'') :=
  fun w' hb => to_floats n.nums hlen bp bv ov cap w' h1 (fun i h => by rw [lift hb _ (by rw [h2 i h];rfl)];exact h2 i h)
 clear h1 h2
 go_enter Tryz.func127,Tryz.ntmps127
 go_wp2_with fail
 have Wb:Below w.heap.size w (((w.alloc (.cells #[.int .i64 n.kind,.int .i64 n.a,.int .i64 n.b,.slice bp n.nums.length cap] 175)).alloc (.cells #[.int .i64 0,.int .i64 0,.int .i64 0,.slice none 0 0] 142)).alloc (.cells #[.int .i64 n.kind,.int .i64 n.a,.int .i64 n.b,.slice none 0 0] 142)):=(by repeat' (first | exact Below.refl _ _ | exact Nat.le_refl _ | refine below_drewN ?_ _ | refine Below.alloc ?_ (by simp <;> omega) _ | refine Below.setCell ?_ (by simp <;> omega) _ | refine below_step ?_ (by assumption)))

 have hkept:Kept [(⟨w.heap.size + 1,0,none⟩,.int .i64 0),(⟨w.heap.size + 1,1,none⟩,.int .i64 0),(⟨w.heap.size + 1,2,none⟩,.int .i64 0),(⟨w.heap.size + 1,3,none⟩,.slice none 0 0),(⟨w.heap.size + 1 + 1,0,none⟩,.int .i64 n.kind),(⟨w.heap.size + 1 + 1,1,none⟩,.int .i64 n.a),(⟨w.heap.size + 1 + 1,2,none⟩,.int .i64 n.b),(⟨w.heap.size + 1 + 1,3,none⟩,.slice none 0 0)] [⟨w.heap.size + 1,0,none⟩,⟨w.heap.size + 1,1,none⟩,⟨w.heap.size + 1,2,none⟩,⟨w.heap.size + 1,3,none⟩,⟨w.heap.size + 1 + 1,3,none⟩] (((w.alloc (.cells #[.int .i64 n.kind,.int .i64 n.a,.int .i64 n.b,.slice bp n.nums.length cap] 175)).alloc (.cells #[.int .i64 0,.int .i64 0,.int .i64 0,.slice none 0 0] 142)).alloc (.cells #[.int .i64 n.kind,.int .i64 n.a,.int .i64 n.b,.slice none 0 0] 142)):=by
  simp only [Kept,ka,kb,kc,kd,ke,kf,kg];(first | (go_simp;done) | (simp [World.cell?,World.frozen?,World.alloc,Array.getElem?_push];done))
 have hWs:(((w.alloc (.cells #[.int .i64 n.kind,.int .i64 n.a,.int .i64 n.b,.slice bp n.nums.length cap] 175)).alloc (.cells #[.int .i64 0,.int .i64 0,.int .i64 0,.slice none 0 0] 142)).alloc (.cells #[.int .i64 n.kind,.int .i64 n.a,.int .i64 n.b,.slice none 0 0] 142)).heap.size = w.heap.size + 1 + 1 + 1:=by simp
 generalize (((w.alloc (.cells #[.int .i64 n.kind,.int .i64 n.a,.int .i64 n.b,.slice bp n.nums.length cap] 175)).alloc (.cells #[.int .i64 0,.int .i64 0,.int .i64 0,.slice none 0 0] 142)).alloc (.cells #[.int .i64 n.kind,.int .i64 n.a,.int .i64 n.b,.slice none 0 0] 142)) = W at *
 refine (hc _ Wb).mono ?_
 rintro _ w2 ⟨g,rfl,hnum,hg,hb2⟩
 have W2b:=below_step Wb hb2
 have hkept2:=keep hkept hb2
 have hK:=hkept2
 simp only [Kept,ka,kb,kc,kd,ke,kf,kg] at hK
 have hgs:w.heap.size + 1 + 1 < g:=by omega
 have hH:=Lib.hid hnum
 clear hc hkept hb2 Wb hnum hkept2 hg hWs
 obtain ⟨hK1,hK2⟩:=hK
 go_wp2_with fail
 obtain ⟨hK1a,hK1b⟩:=hK1
 refine bodyPost_ret (v:=.agg #[.int .i64 n.kind,.int .i64 n.a,.int .i64 n.b,.slice (some ⟨g,0,none⟩) n.nums.length n.nums.length]) (by simp [results,Tryz.results127,go_sem,hK1a,hK1b,hK2]) rfl ⟨g,rfl,fun i hi => ?_,by omega,?_⟩
 ·rw [World.cell?_setCell_far _ _ _ _ (by show w.heap.size + 1 ≠ g;omega),World.cell?_setCell_far _ _ _ _ (by show w.heap.size + 1 ≠ g;omega),World.cell?_setCell_far _ _ _ _ (by show w.heap.size + 1 ≠ g;omega),World.cell?_setCell_far _ _ _ _ (by show w.heap.size + 1 ≠ g;omega),World.cell?_setCell_far _ _ _ _ (by show w.heap.size + 1 + 1 ≠ g;omega)]
  exact hH.out i hi
 ·exact ((((W2b.setCell (by show w.heap.size ≤ w.heap.size + 1 + 1;omega) _).setCell (by exact Nat.le_succ _) _).setCell (by exact Nat.le_succ _) _).setCell (by exact Nat.le_succ _) _).setCell (by exact Nat.le_succ _) _

/-- A node in a new list. -/
structure NodeNew (n:PN) (G o:Nat) (w:World):Prop where
 kind:w.cell? ⟨G,o,none⟩ = some (.int .i64 n.kind)
 a:w.cell? ⟨G,o + 1,none⟩ = some (.int .i64 n.a)
 b:w.cell? ⟨G,o + 2,none⟩ = some (.int .i64 n.b)
 nums:∃ g,G < g ∧ w.cell? ⟨G,o + 3,none⟩ = some (.slice (some ⟨g,0,none⟩) n.nums.length n.nums.length) ∧ ∀ i (h:i < n.nums.length),w.cell? ⟨g,0 + i,none⟩ = some (.float .f32 n.nums[i])

theorem NodeNew.into {n:PN} {G o:Nat} {w:World} (h:NodeNew n G o w):NodeIn n G o w:=by
 obtain ⟨g,-,h1,h2⟩:=h.nums
 exact ⟨h.kind,h.a,h.b,some ⟨g,0,none⟩,g,0,_,h1,fun _ => rfl,h2⟩

theorem NodeNew.keep {n:PN} {G o:Nat} {w w':World} (h:NodeNew n G o w) (hb:Below w.heap.size w w'):NodeNew n G o w':=by
 have l:=fun a v (h:w.cell? a = some v) => (show w'.cell? a = some v by rw [lift hb a (by rw [h];rfl)];exact h)
 obtain ⟨g,h0,h1,h2⟩:=h.nums
 exact ⟨l _ _ h.kind,l _ _ h.a,l _ _ h.b,g,h0,l _ _ h1,fun i hi => l _ _ (h2 i hi)⟩

theorem NodeNew.far {n:PN} {G o:Nat} {w:World} (h:NodeNew n G o w) (p:Addr) (hp:p.block < G) (v:Value):NodeNew n G o (w.setCell p v):=by
 obtain ⟨g,h0,h1,h2⟩:=h.nums
 have l:∀ b k,p.block ≠ b → (w.setCell p v).cell? ⟨b,k,none⟩ = w.cell? ⟨b,k,none⟩:=fun b k hb => World.cell?_setCell_far _ _ _ _ hb
 exact ⟨by rw [l _ _ (by omega)];exact h.kind,by rw [l _ _ (by omega)];exact h.a,by rw [l _ _ (by omega)];exact h.b,g,h0,by rw [l _ _ (by omega)];exact h1,fun i hi => by rw [l _ _ (by omega)];exact h2 i hi⟩

theorem NodeNew.set {n:PN} {G o:Nat} {w:World} (h:NodeNew n G o w) (j:Nat) (hj:j < o ∨ o + 4 ≤ j) (v:Value):NodeNew n G o (w.setCell ⟨G,j,none⟩ v):=by
 have l:=fun k u (hk:o ≤ k ∧ k < o + 4) (h:w.cell? ⟨G,k,none⟩ = some u) => (show (w.setCell ⟨G,j,none⟩ v).cell? ⟨G,k,none⟩ = some u by
  exact (World.cell?_setCell_other (w:=w) (a:=⟨G,j,none⟩) (b:=⟨G,k,none⟩) (v:=v) (by intro e;injection e with _ e;omega)).trans h)
 obtain ⟨g,h0,h1,h2⟩:=h.nums
 exact ⟨l _ _ (by omega) h.kind,l _ _ (by omega) h.a,l _ _ (by omega) h.b,g,h0,l _ _ (by omega) h1,fun i hi => by rw [World.cell?_setCell_far _ _ _ _ (by show G ≠ g;omega)];exact h2 i hi⟩

theorem NodeNew.made {n:PN} {G o g:Nat} {w:World} {A:Array Value} {T:TypeId} (hA:w.heap[G]? = some (.cells A T (0,0))) (hs:o + 4 ≤ A.size) (hg:G < g) (h2:∀ i (h:i < n.nums.length),w.cell? ⟨g,0 + i,none⟩ = some (.float .f32 n.nums[i])) :
  NodeNew n G o ((((w.setCell ⟨G,o,none⟩ (.int .i64 n.kind)).setCell ⟨G,o + 1,none⟩ (.int .i64 n.a)).setCell ⟨G,o + 2,none⟩ (.int .i64 n.b)).setCell ⟨G,o + 3,none⟩ (.slice (some ⟨g,0,none⟩) n.nums.length n.nums.length)):=by
 have h4:=arr_set (arr_set (arr_set (arr_set hA o (.int .i64 n.kind)) (o + 1) (.int .i64 n.a)) (o + 2) (.int .i64 n.b)) (o + 3) (.slice (some ⟨g,0,none⟩) n.nums.length n.nums.length)
 have hf:∀ i,((((w.setCell ⟨G,o,none⟩ (.int .i64 n.kind)).setCell ⟨G,o + 1,none⟩ (.int .i64 n.a)).setCell ⟨G,o + 2,none⟩ (.int .i64 n.b)).setCell ⟨G,o + 3,none⟩ (.slice (some ⟨g,0,none⟩) n.nums.length n.nums.length)).cell? ⟨g,i,none⟩ = w.cell? ⟨g,i,none⟩:=fun i => by
  rw [World.cell?_setCell_far _ _ _ _ (by show G ≠ g;omega),World.cell?_setCell_far _ _ _ _ (by show G ≠ g;omega),World.cell?_setCell_far _ _ _ _ (by show G ≠ g;omega),World.cell?_setCell_far _ _ _ _ (by show G ≠ g;omega)]
 have e0:o < A.size:=by omega
 have e1:o + 1 < A.size:=by omega
 have e2:o + 2 < A.size:=by omega
 have e3:o + 3 < A.size:=by omega
 refine ⟨?_,?_,?_,g,hg,?_,fun i hi => by rw [hf];exact h2 i hi⟩
 all_goals rw [arr_cell h4]
 ·rw [Array.getElem?_setIfInBounds_ne (by omega),Array.getElem?_setIfInBounds_ne (by omega),Array.getElem?_setIfInBounds_ne (by omega),Array.getElem?_setIfInBounds_self_of_lt e0]
 ·rw [Array.getElem?_setIfInBounds_ne (by omega),Array.getElem?_setIfInBounds_ne (by omega),Array.getElem?_setIfInBounds_self_of_lt (by simpa using e1)]
 ·rw [Array.getElem?_setIfInBounds_ne (by omega),Array.getElem?_setIfInBounds_self_of_lt (by simpa using e2)]
 ·rw [Array.getElem?_setIfInBounds_self_of_lt (by simpa using e3)]

theorem node_info:(Tryz.prog.info? 142).map (fun i => (i.zero,i.size,i.bytes)) = some (some (.agg #[.int .i64 0,.int .i64 0,.int .i64 0,.slice none 0 0]),4,48):=by kernel_rfl

theorem make_nodes (n:Nat) (hn:(n:Int) ≤ 1048576) (w:World):∃ A:Array Value,A.size = n * 4 ∧ (Instr.makeSlice 34 (.int .i64 (n:Int)) (.int .i64 (n:Int))).run Tryz.prog w = .ok (.slice (some ⟨w.heap.size,0,none⟩) n n) (w.alloc (.cells A 142)):=by
 obtain ⟨i0,hi,hz0,hz1,hz2⟩:=info_parts node_info
 have h:=run_make (P:=Tryz.prog) w 34 142 i0 _ Tryz.underlying34 hi hz0 .i64 .i64 n n (by omega) (by omega) (by rw [hz2];omega) (by omega)
 rw [hz1] at h
 refine ⟨_,?_,h⟩
 simp [madeCells]

set_option maxRecDepth 100000 in
set_option maxHeartbeats 4000000 in
theorem to_nodes (ns:List PN) (hlen:(ns.length:Int) ≤ 1048576) (hnum:∀ n ∈ ns,(n.nums.length:Int) ≤ 1048576) (bp:Option Addr) (nb no cap:Nat) (w:World) (hns:NodesIn ns bp nb no w) :
  Calls Tryz.prog 63 #[.slice bp ns.length cap] w (fun e w' => ∃ G,e = .returned (.slice (some ⟨G,0,none⟩) ns.length ns.length) ∧ (∀ i (h:i < ns.length),NodeNew ns[i] G (0 + i * 4) w') ∧ w.heap.size ≤ G ∧ Below w.heap.size w w'):=by
 obtain ⟨A,hA,hmk⟩:=make_nodes ns.length hlen w
 go_enter Tryz.func63,Tryz.ntmps63
 go_wp2_with fail
 have W1b:Below w.heap.size w (w.alloc (.cells A 142)):=(by repeat' (first | exact Below.refl _ _ | exact Nat.le_refl _ | refine below_drewN ?_ _ | refine Below.alloc ?_ (by simp <;> omega) _ | refine Below.setCell ?_ (by simp <;> omega) _ | refine below_step ?_ (by assumption)))

 have hpar:=heap_alloc_at w (.cells A 142)
 generalize w.alloc (.cells A 142) = W1 at *
 clear hmk
 go_loopw [4] (fun i wr => ∃ (m:Nat) (A:Array Value),m ≤ ns.length ∧ i = .int .i64 (m:Int) ∧ A.size = ns.length * 4 ∧ wr.heap[w.heap.size]? = some (.cells A 142 (0,0)) ∧ (∀ k (h:k < ns.length),k < m → NodeNew ns[k] w.heap.size (k * 4) wr) ∧ Below w.heap.size w wr) (fun i _ => ns.length - (intOf i).toNat)
 case atStart => exact ⟨0,A,by omega,rfl,hA,hpar,fun k _ h => by omega,W1b⟩
 case round =>
  obtain ⟨m,A',hm,rfl,hA',hpar',hk,Wb⟩:=hrel
  clear hpar W1b
  by_cases hlt:m < ns.length
  ·have hlt':(m:Int) < (ns.length:Int):=by omega
   have h0:(0:Int) ≤ (m:Int):=by omega
   have hne:ns ≠ []:=by intro h;rw [h] at hlt;simp at hlt
   have hbp:=hns.ptr hne
   subst hbp
   have hn:=(hns.node m hlt).keep Wb
   have hnl:=hnum ns[m] (List.getElem_mem _)
   obtain ⟨np,nv,nvo,ncap,hn4,hn5,hn6⟩:=hn.nums
   have hn1:=hn.kind
   have hn2:=hn.a
   have hn3:=hn.b
   have hGs:w.heap.size < wr.heap.size:=(Array.getElem?_eq_some_iff.1 hpar').1
   have hc:=to_node ns[m] hnl np nv nvo ncap wr hn5 hn6
   have hkeep:∀ w2,Below wr.heap.size wr w2 → ∀ k (h:k < ns.length),k < m → NodeNew ns[k] w.heap.size (k * 4) w2:=fun w2 hb k h hkm => (hk k h hkm).keep hb
   have hHk:=Lib.hid hkeep
   have hHp:=Lib.hid hpar'
   have hHns:=Lib.hid hns
   have hHnum:=Lib.hid hnum
   have hnm:ns[m] = ns[m]:=rfl
   clear hn hn5 hn6 hnl hk hkeep hpar' hns hnum hnm
   have hold:Hid (ns[m] = ns[m]):=rfl
   generalize hgn:ns[m] = n at hn1 hn2 hn3 hn4 hc
   have hHgn:=Lib.hid hgn
   clear hgn hold
   go_wp2_with fail
   refine hc.mono ?_
   rintro _ w2 ⟨g,rfl,hg2,hgs,hb2⟩
   have hpar2:w2.heap[w.heap.size]? = some (.cells A' 142 (0,0)):=by rw [hb2.block _ hGs];exact hHp.out
   have hcell:∀ j (hj:j < 4),w2.cell? ⟨w.heap.size,m * 4 + j,none⟩ = some (A'[m * 4 + j]'(by omega)):=fun j hj => by rw [arr_cell hpar2,Array.getElem?_eq_getElem (by omega)]
   have hc0:w2.cell? ⟨w.heap.size,m * 4,none⟩ = some (A'[m * 4]'(by omega)):=by rw [arr_cell hpar2,Array.getElem?_eq_getElem (by omega)]
   have hc1:=hcell 1 (by omega)
   have hc2:=hcell 2 (by omega)
   have hc3:=hcell 3 (by omega)
   have hfz:=arr_frozen hpar2
   have hmade:=NodeNew.made (n:=n) (o:=m * 4) hpar2 (by omega) (show w.heap.size < g by omega) hg2
   have h4:=arr_set (arr_set (arr_set (arr_set hpar2 (m * 4) (.int .i64 n.kind)) (m * 4 + 1) (.int .i64 n.a)) (m * 4 + 2) (.int .i64 n.b)) (m * 4 + 3) (.slice (some ⟨g,0,none⟩) n.nums.length n.nums.length)
   have hb4:=((((below_step Wb hb2).setCell (p:=⟨w.heap.size,m * 4,none⟩) (Nat.le_refl _) (.int .i64 n.kind)).setCell (p:=⟨w.heap.size,m * 4 + 1,none⟩) (Nat.le_refl _) (.int .i64 n.a)).setCell (p:=⟨w.heap.size,m * 4 + 2,none⟩) (Nat.le_refl _) (.int .i64 n.b)).setCell (p:=⟨w.heap.size,m * 4 + 3,none⟩) (Nat.le_refl _) (.slice (some ⟨g,0,none⟩) n.nums.length n.nums.length)
   have hall:Hid (∀ k (h:k < ns.length),k < m + 1 → NodeNew ns[k] w.heap.size (k * 4) ((((w2.setCell ⟨w.heap.size,m * 4,none⟩ (.int .i64 n.kind)).setCell ⟨w.heap.size,m * 4 + 1,none⟩ (.int .i64 n.a)).setCell ⟨w.heap.size,m * 4 + 2,none⟩ (.int .i64 n.b)).setCell ⟨w.heap.size,m * 4 + 3,none⟩ (.slice (some ⟨g,0,none⟩) n.nums.length n.nums.length))):=fun k h hkm => by
    by_cases hkm':k = m
    ·subst hkm'
     rw [hHgn.out];exact hmade
    ·exact (((((hHk.out w2 hb2 k h (by omega)).set _ (by omega) _).set _ (by omega) _).set _ (by omega) _).set _ (by omega) _)
   have hH4:=Lib.hid h4
   clear hcell hmade h4 hpar2 hg2 hc hb2
   go_wp2_with fail
   exact ⟨⟨m + 1,_,by omega,by simp,by simpa using hA',hH4.out,hall.out,hb4⟩,by simp [intOf];omega⟩
  ·obtain rfl:m = ns.length:=by omega
   have hH:=Lib.hid hk
   clear hk hpar' hns hnum
   go_wp2_with fail
   go_ret
   exact ⟨w.heap.size,rfl,fun i hi => by rw [Nat.zero_add];exact hH.out i hi hi,Nat.le_refl _,Wb⟩
end Go.Proofs.YtbiacfkiakddiaaGreat

namespace Go.Proofs.YtbiacfkiakddiaaGreat
open Go.RowKit Go.Fl
/-- A shape made anew comes back. -/
def RetSh (ns:List PN) (w:World) (e:Ending) (w':World):Prop :=
 ∃ G,e = .returned (.agg #[.slice (some ⟨G,0,none⟩) ns.length ns.length]) ∧ (∀ i (h:i < ns.length),NodeNew ns[i] G (0 + i * 4) w') ∧ w.heap.size ≤ G ∧ Below w.heap.size w w'

set_option maxRecDepth 100000 in
set_option maxHeartbeats 2000000 in
theorem to_shape (ns:List PN) (hlen:(ns.length:Int) ≤ 1048576) (hnum:∀ n ∈ ns,(n.nums.length:Int) ≤ 1048576) (bp:Option Addr) (nb no cap:Nat) (w:World) (hns:NodesIn ns bp nb no w) :
  Calls Tryz.prog 15 #[.agg #[.slice bp ns.length cap]] w (RetSh ns w):=by
 have hc:=fun w' (h:Below w.heap.size w w') => to_nodes ns hlen hnum bp nb no cap w' (hns.keep h)
 clear hns hnum
 go_enter Tryz.func15,Tryz.ntmps15
 go_wp2_with fail
 have Wb:Below w.heap.size w (((w.alloc (.cells #[.slice bp ns.length cap] 24)).alloc (.cells #[.slice none 0 0] 36)).alloc (.cells #[.slice none 0 0] 36)):=(by repeat' (first | exact Below.refl _ _ | exact Nat.le_refl _ | refine below_drewN ?_ _ | refine Below.alloc ?_ (by simp <;> omega) _ | refine Below.setCell ?_ (by simp <;> omega) _ | refine below_step ?_ (by assumption)))

 have hkept:Kept [(⟨w.heap.size + 1,0,none⟩,.slice none 0 0),(⟨w.heap.size + 1 + 1,0,none⟩,.slice none 0 0)] [⟨w.heap.size + 1,0,none⟩,⟨w.heap.size + 1 + 1,0,none⟩] (((w.alloc (.cells #[.slice bp ns.length cap] 24)).alloc (.cells #[.slice none 0 0] 36)).alloc (.cells #[.slice none 0 0] 36)):=by
  simp only [Kept,ka,kb,kc,kd,ke,kf,kg];(first | (go_simp;done) | (simp [World.cell?,World.frozen?,World.alloc,Array.getElem?_push];done))
 have hWs:(((w.alloc (.cells #[.slice bp ns.length cap] 24)).alloc (.cells #[.slice none 0 0] 36)).alloc (.cells #[.slice none 0 0] 36)).heap.size = w.heap.size + 1 + 1 + 1:=by simp
 generalize ((w.alloc (.cells #[.slice bp ns.length cap] 24)).alloc (.cells #[.slice none 0 0] 36)).alloc (.cells #[.slice none 0 0] 36) = W at *
 refine (hc _ Wb).mono ?_
 rintro _ w2 ⟨G,rfl,hnew,hG,hb2⟩
 have W2b:=below_step Wb hb2
 have hkept2:=keep hkept hb2
 have hK:=hkept2
 simp only [Kept,ka,kb,kc,kd,ke,kf,kg] at hK
 have hGs:w.heap.size + 1 + 1 < G:=by omega
 have hH:=Lib.hid hnew
 clear hc hkept hb2 Wb hnew hkept2 hG hWs
 obtain ⟨hK1,hK2⟩:=hK
 go_wp2_with fail
 refine bodyPost_ret (v:=.agg #[.slice (some ⟨G,0,none⟩) ns.length ns.length]) (by simp [results,Tryz.results15,go_sem,hK1,hK2]) rfl ⟨G,rfl,fun i hi => ?_,by omega,?_⟩
 ·exact ((hH.out i hi).far _ (by show w.heap.size + 1 + 1 < G;omega) _).far _ (by show w.heap.size + 1 < G;omega) _
 ·exact (W2b.setCell (by show w.heap.size ≤ w.heap.size + 1 + 1;omega) _).setCell (by exact Nat.le_succ _) _

set_option maxRecDepth 100000 in
set_option maxHeartbeats 1000000 in
theorem to_vector (x y z:Nat) (w:World) :
  Calls Tryz.prog 64 #[V3 x y z] w (fun e w' => e = .returned (V3 x y z) ∧ Below w.heap.size w w'):=by
 go_enter Tryz.func64,Tryz.ntmps64
 go_wp2_with fail
 exact bodyPost_ret (v:=.agg #[F1 _,F1 _,F1 _]) (by simp [results,Tryz.results64,go_sem];first | done | exact ⟨rfl,rfl,rfl⟩) rfl ⟨rfl,(by repeat' (first | exact Below.refl _ _ | exact Nat.le_refl _ | refine below_drewN ?_ _ | refine Below.alloc ?_ (by simp <;> omega) _ | refine Below.setCell ?_ (by simp <;> omega) _ | refine below_step ?_ (by assumption)))⟩

theorem order_self {k:FloatKind} {x:Nat} (h:(k.decode x).isNaN = false):k.format.order x x = some .eq:=by
 show (k.decode x).order (k.decode x) = _
 cases hd:k.decode x with
 | nan s t => rw [hd] at h;cases h
 | infinity s => cases s <;> rfl
 | number s m e =>
  show some (compare _ _) = _
  rw [Ft.cmp_eq.2 rfl]

theorem gt_same {a b:Nat} (h:cn .f64 a = cn .f64 b):((FloatKind.f64.format.order a 0 == some .gt) == (FloatKind.f64.format.order b 0 == some .gt)) = true:=by
 rw [← ord_r0 .f64 a,← ord_r0 .f64 b,h];simp

set_option maxRecDepth 100000 in
set_option maxHeartbeats 1000000 in
theorem same_float (u v:Nat) (h:cn .f64 u = cn .f64 v) (w:World) :
  Calls Tryz.prog 47 #[.float .f64 u,.float .f64 v] w (fun e w' => e = .returned (.bool true) ∧ Below w.heap.size w w'):=by
 cases hu:(FloatKind.f64.decode u).isNaN
 ·have hv:(FloatKind.f64.decode v).isNaN = false:=by rw [← isNaN_cn,← h,isNaN_cn];exact hu
  rw [cn_of_not hu,cn_of_not hv] at h
  subst h
  have h1:(FloatKind.f64.format.order u u != some .eq) = false:=by rw [order_self hu];rfl
  have h2:(FloatKind.f64.format.order u u == some .eq) = true:=by rw [order_self hu];rfl
  clear hu hv
  cases hz:(FloatKind.f64.format.order u 0 == some .eq)
  ·go_enter Tryz.func47,Tryz.ntmps47
   go_wp2_with (refine wp_bin rfl _ _ _ _ _ rfl _ _ _ rfl rfl rfl ?_;intro r n hr)
   go_ret
   exact ⟨by first | rfl | (rw [h2];rfl) | simp,(by repeat' (first | exact Below.refl _ _ | exact Nat.le_refl _ | refine below_drewN ?_ _ | refine Below.alloc ?_ (by simp <;> omega) _ | refine Below.setCell ?_ (by simp <;> omega) _ | refine below_step ?_ (by assumption)))⟩
  ·go_enter Tryz.func47,Tryz.ntmps47
   go_wp2_with (refine wp_bin rfl _ _ _ _ _ rfl _ _ _ rfl rfl rfl ?_;intro r n hr)
   go_ret
   exact ⟨congrArg Ending.returned (congrArg Value.bool (gt_same (by simp only [*]))),(by repeat' (first | exact Below.refl _ _ | exact Nat.le_refl _ | refine below_drewN ?_ _ | refine Below.alloc ?_ (by simp <;> omega) _ | refine Below.setCell ?_ (by simp <;> omega) _ | refine below_step ?_ (by assumption)))⟩
 ·have hv:(FloatKind.f64.decode v).isNaN = true:=by rw [← isNaN_cn,← h,isNaN_cn];exact hu
  have h1:(FloatKind.f64.format.order u u != some .eq) = true:=by
   show ((FloatKind.f64.decode u).order (FloatKind.f64.decode u) != some .eq) = true
   rw [order_nan_l hu];rfl
  have h2:(FloatKind.f64.format.order v v != some .eq) = true:=by
   show ((FloatKind.f64.decode v).order (FloatKind.f64.decode v) != some .eq) = true
   rw [order_nan_l hv];rfl
  clear hu hv h
  go_enter Tryz.func47,Tryz.ntmps47
  go_wp2_with fail
  go_ret
  exact ⟨rfl,(by repeat' (first | exact Below.refl _ _ | exact Nat.le_refl _ | refine below_drewN ?_ _ | refine Below.alloc ?_ (by simp <;> omega) _ | refine Below.setCell ?_ (by simp <;> omega) _ | refine below_step ?_ (by assumption)))⟩

open Go.RowKit Go.Fl
/-- float64(x) in a region that draws its order. -/
theorem one_wid {P:Program} {W:World} {Phi:FuncId → Array Value → Value → Prop} {o:Oper} {a:Act} {K:Act → Prop} (s d:TypeId) (x:Operand)
  (ho:o.op = .convert s d x) (u:Nat) (hx:a.eval x = F1 u) (hs:(P.underlying s).isSome = true) (hd:P.underlying d = some (.float .f64))
  (h:∀ r,cn .f64 r = wid (cn .f32 u) → K (a.put o.dst (.float .f64 r))):Qr.one P (fun w' => Below W.heap.size W w') Phi o a K:=by
 refine Qr.one_rel (fun x => ∃ r,x = .float .f64 r ∧ cn .f64 r = wid (cn .f32 u)) (fun w' hw' => ?_) ?_
 ·obtain ⟨r,n,hr,hc⟩:=run_conv (P:=P) w' s d .f32 .f64 (by decide) hs hd u (fitsW_all u)
  refine ⟨_,w'.drewN n,exec_convert o a s d x ho w' _ _ (by rw [hx];exact hr),⟨r,rfl,?_⟩,⟨hw'.os,hw'.tape,hw'.output,hw'.size,hw'.block⟩,rfl,rfl,rfl,Nat.le_refl _,fun _ _ => rfl⟩
  rw [hc];exact (cn_pick .f32 .f64 u).symm
 ·rintro _ ⟨r,rfl,hr⟩
  exact h r hr

inductive PhiE:FuncId → Array Value → Value → Prop
 | yes (f:FuncId) (args:Array Value):PhiE f args (.bool true)


set_option maxRecDepth 100000 in
set_option maxHeartbeats 2000000 in
theorem eq_floats (xs:List Nat) (hlen:(xs.length:Int) ≤ 1048576) (p q:Nat) (pc qc:Nat) (w:World) (h1:∀ i (h:i < xs.length),w.cell? ⟨p,0 + i,none⟩ = some (F1 xs[i])) (h2:∀ i (h:i < xs.length),w.cell? ⟨q,0 + i,none⟩ = some (F1 xs[i])) :
  Calls Tryz.prog 226 #[.slice (some ⟨p,0,none⟩) xs.length pc,.slice (some ⟨q,0,none⟩) xs.length qc] w (fun e w' => e = .returned (.bool true) ∧ Below w.heap.size w w'):=by
 go_enter Tryz.func226,Tryz.ntmps226
 go_wp2_with fail
 go_loopw [5] (fun i wr => ∃ (m:Nat),m ≤ xs.length ∧ i = .int .i64 (m:Int) ∧ Below w.heap.size w wr) (fun i _ => xs.length - (intOf i).toNat)
 case atStart => exact ⟨0,by omega,rfl,Below.refl _ _⟩
 case round =>
  obtain ⟨m,hm,rfl,Wb⟩:=hrel
  by_cases hlt:m < xs.length
  ·have hlt':(m:Int) < (xs.length:Int):=by omega
   have h0:(0:Int) ≤ (m:Int):=by omega
   have hc1:wr.cell? ⟨p,m,none⟩ = some (F1 xs[m]):=by have:=h1 m hlt;rw [Nat.zero_add] at this;rw [lift Wb _ (by rw [this];rfl)];exact this
   have hc2:wr.cell? ⟨q,m,none⟩ = some (F1 xs[m]):=by have:=h2 m hlt;rw [Nat.zero_add] at this;rw [lift Wb _ (by rw [this];rfl)];exact this
   generalize xs[m] = x at hc1 hc2
   have hkept:Kept [(⟨p,m,none⟩,F1 x),(⟨q,m,none⟩,F1 x)] [] wr:=by
    simp only [Kept,ka,kb,kc,kd,ke,kf,kg]
    exact ⟨hc1,hc2⟩
   clear h1 h2 hc1 hc2
   go_upto_region 6 with fail
   refine Qr.wp_below_all (by kernel_rfl) (by kernel_rfl) PhiE ?_
   repeat (first | (refine Qr.walk_plain rfl fun K hK => ?_;apply Qr.one_det;(focus (intro w' hw';have HK:=keep hkept hw';simp only [Kept,ka,kb,kc,kd,ke,kf,kg] at HK;go_simp;first | done | rfl));go_simp;refine hK _ ?_;clear hK K) | (refine Qr.walk_plain rfl fun K hK => ?_;refine one_wid _ _ _ rfl _ rfl some_f32 Tryz.underlying89 (fun r hr => ?_);go_simp;refine hK _ ?_;clear hK K) | (refine Qr.walk_plain rfl fun K hK => ?_;apply Qr.one_call;(focus (intro w' hw';go_simp;first | done | exact ⟨rfl,rfl⟩));(focus (intro w' hw'; go_at_call 47;refine (same_float _ _ (by simp only [*]) _).mono ?_;rintro _ w2 ⟨rfl,hb1⟩;exact ⟨_,rfl,PhiE.yes _ _,below_step hw' (by assumption),by assumption⟩));intro v hv;cases hv;go_simp;refine hK _ ?_;clear hK K))
   refine Qr.walk_nil fun w6 hw6 => ?_
   go_wp2_with fail
   exact ⟨⟨m + 1,by omega,by simp,below_step Wb hw6⟩,by simp [intOf];omega⟩
  ·obtain rfl:m = xs.length:=by omega
   clear h1 h2
   go_wp2_with fail
   go_ret
   exact ⟨rfl,Wb⟩

set_option maxRecDepth 100000 in
set_option maxHeartbeats 2000000 in
theorem eq_node (n:PN) (hlen:(n.nums.length:Int) ≤ 1048576) (p q pc qc:Nat) (w:World) (h1:∀ i (h:i < n.nums.length),w.cell? ⟨p,0 + i,none⟩ = some (F1 n.nums[i])) (h2:∀ i (h:i < n.nums.length),w.cell? ⟨q,0 + i,none⟩ = some (F1 n.nums[i])) :
  Calls Tryz.prog 139 #[.agg #[.int .i64 n.kind,.int .i64 n.a,.int .i64 n.b,.slice (some ⟨p,0,none⟩) n.nums.length pc],.agg #[.int .i64 n.kind,.int .i64 n.a,.int .i64 n.b,.slice (some ⟨q,0,none⟩) n.nums.length qc]] w (fun e w' => e = .returned (.bool true) ∧ Below w.heap.size w w'):=by
 have hc:∀ w',Below w.heap.size w w' → Calls Tryz.prog 226 #[.slice (some ⟨p,0,none⟩) n.nums.length pc,.slice (some ⟨q,0,none⟩) n.nums.length qc] w' (fun e w'' => e = .returned (.bool true) ∧ Below w'.heap.size w' w'') :=
  fun w' hb => eq_floats n.nums hlen p q pc qc w' (fun i h => by rw [lift hb _ (by rw [h1 i h];rfl)];exact h1 i h) (fun i h => by rw [lift hb _ (by rw [h2 i h];rfl)];exact h2 i h)
 clear h1 h2
 go_enter Tryz.func139,Tryz.ntmps139
 go_wp2_with (go_at_call 226;refine (hc _ (by repeat' (first | exact Below.refl _ _ | exact Nat.le_refl _ | refine below_drewN ?_ _ | refine Below.alloc ?_ (by simp <;> omega) _ | refine Below.setCell ?_ (by simp <;> omega) _ | refine below_step ?_ (by assumption)))).mono ?_;rintro _ w2 ⟨rfl,hb2⟩)
 go_ret
 exact ⟨rfl,(by repeat' (first | exact Below.refl _ _ | exact Nat.le_refl _ | refine below_drewN ?_ _ | refine Below.alloc ?_ (by simp <;> omega) _ | refine Below.setCell ?_ (by simp <;> omega) _ | refine below_step ?_ (by assumption)))⟩

set_option maxRecDepth 100000 in
set_option maxHeartbeats 2000000 in
theorem eq_nodes (ns:List PN) (hlen:(ns.length:Int) ≤ 1048576) (hnum:∀ n ∈ ns,(n.nums.length:Int) ≤ 1048576) (G H gc hc:Nat) (w:World) (h1:∀ i (h:i < ns.length),NodeNew ns[i] G (0 + i * 4) w) (h2:∀ i (h:i < ns.length),NodeNew ns[i] H (0 + i * 4) w) :
  Calls Tryz.prog 69 #[.slice (some ⟨G,0,none⟩) ns.length gc,.slice (some ⟨H,0,none⟩) ns.length hc] w (fun e w' => e = .returned (.bool true) ∧ Below w.heap.size w w'):=by
 go_enter Tryz.func69,Tryz.ntmps69
 go_wp2_with fail
 go_loopw [5] (fun i wr => ∃ (m:Nat),m ≤ ns.length ∧ i = .int .i64 (m:Int) ∧ Below w.heap.size w wr) (fun i _ => ns.length - (intOf i).toNat)
 case atStart => exact ⟨0,by omega,rfl,Below.refl _ _⟩
 case round =>
  obtain ⟨m,hm,rfl,Wb⟩:=hrel
  by_cases hlt:m < ns.length
  ·have hlt':(m:Int) < (ns.length:Int):=by omega
   have h0:(0:Int) ≤ (m:Int):=by omega
   have hA:=(h1 m hlt).keep Wb
   have hB:=(h2 m hlt).keep Wb
   have hnl:=hnum ns[m] (List.getElem_mem _)
   rw [Nat.zero_add] at hA hB
   generalize ns[m] = n at hA hB hnl
   obtain ⟨p,-,hA3,hA4⟩:=hA.nums
   obtain ⟨q,-,hB3,hB4⟩:=hB.nums
   have hkept:Kept [(⟨G,m * 4,none⟩,.int .i64 n.kind),(⟨G,m * 4 + 1,none⟩,.int .i64 n.a),(⟨G,m * 4 + 2,none⟩,.int .i64 n.b),(⟨G,m * 4 + 3,none⟩,.slice (some ⟨p,0,none⟩) n.nums.length n.nums.length),(⟨H,m * 4,none⟩,.int .i64 n.kind),(⟨H,m * 4 + 1,none⟩,.int .i64 n.a),(⟨H,m * 4 + 2,none⟩,.int .i64 n.b),(⟨H,m * 4 + 3,none⟩,.slice (some ⟨q,0,none⟩) n.nums.length n.nums.length)] [] wr:=by
    simp only [Kept,ka,kb,kc,kd,ke,kf,kg]
    exact ⟨hA.kind,hA.a,hA.b,hA3,hB.kind,hB.a,hB.b,hB3⟩
   have hcall:∀ w',Below wr.heap.size wr w' → Calls Tryz.prog 139 #[.agg #[.int .i64 n.kind,.int .i64 n.a,.int .i64 n.b,.slice (some ⟨p,0,none⟩) n.nums.length n.nums.length],.agg #[.int .i64 n.kind,.int .i64 n.a,.int .i64 n.b,.slice (some ⟨q,0,none⟩) n.nums.length n.nums.length]] w' (fun e w'' => e = .returned (.bool true) ∧ Below w'.heap.size w' w'') :=
    fun w' hb => eq_node n hnl p q _ _ w' (fun i h => by rw [lift hb _ (by rw [hA4 i h];rfl)];exact hA4 i h) (fun i h => by rw [lift hb _ (by rw [hB4 i h];rfl)];exact hB4 i h)
   clear h1 h2 hA hB hA3 hA4 hB3 hB4 hnum
   go_upto_region 6 with fail
   refine Qr.wp_below_all (by kernel_rfl) (by kernel_rfl) PhiE ?_
   repeat (first | (refine Qr.walk_plain rfl fun K hK => ?_;apply Qr.one_det;(focus (intro w' hw';have HK:=keep hkept hw';simp only [Kept,ka,kb,kc,kd,ke,kf,kg] at HK;go_simp;first | done | rfl));go_simp;refine hK _ ?_;clear hK K) | (refine Qr.walk_plain rfl fun K hK => ?_;apply Qr.one_call;(focus (intro w' hw';go_simp;first | done | exact ⟨rfl,rfl⟩));(focus (intro w' hw'; go_at_call 139;refine (hcall _ hw').mono ?_;rintro _ w2 ⟨rfl,hb1⟩;exact ⟨_,rfl,PhiE.yes _ _,below_step hw' (by assumption),by assumption⟩));intro v hv;cases hv;go_simp;refine hK _ ?_;clear hK K))
   refine Qr.walk_nil fun w6 hw6 => ?_
   go_wp2_with fail
   exact ⟨⟨m + 1,by omega,by simp,below_step Wb hw6⟩,by simp [intOf];omega⟩
  ·obtain rfl:m = ns.length:=by omega
   clear h1 h2 hnum
   go_wp2_with fail
   go_ret
   exact ⟨rfl,Wb⟩

set_option maxRecDepth 100000 in
set_option maxHeartbeats 2000000 in
theorem eq_shape (ns:List PN) (hlen:(ns.length:Int) ≤ 1048576) (hnum:∀ n ∈ ns,(n.nums.length:Int) ≤ 1048576) (G H gc hc:Nat) (w:World) (h1:∀ i (h:i < ns.length),NodeNew ns[i] G (0 + i * 4) w) (h2:∀ i (h:i < ns.length),NodeNew ns[i] H (0 + i * 4) w) :
  Calls Tryz.prog 19 #[.agg #[.slice (some ⟨G,0,none⟩) ns.length gc],.agg #[.slice (some ⟨H,0,none⟩) ns.length hc]] w (fun e w' => e = .returned (.bool true) ∧ Below w.heap.size w w'):=by
 have hcall:=fun w' (hb:Below w.heap.size w w') => eq_nodes ns hlen hnum G H gc hc w' (fun i h => (h1 i h).keep hb) (fun i h => (h2 i h).keep hb)
 clear h1 h2 hnum
 go_enter Tryz.func19,Tryz.ntmps19
 go_wp2_with (go_at_call 69;refine (hcall _ (by repeat' (first | exact Below.refl _ _ | exact Nat.le_refl _ | refine below_drewN ?_ _ | refine Below.alloc ?_ (by simp <;> omega) _ | refine Below.setCell ?_ (by simp <;> omega) _ | refine below_step ?_ (by assumption)))).mono ?_;rintro _ w2 ⟨rfl,hb2⟩)
 go_ret
 exact ⟨rfl,(by repeat' (first | exact Below.refl _ _ | exact Nat.le_refl _ | refine below_drewN ?_ _ | refine Below.alloc ?_ (by simp <;> omega) _ | refine Below.setCell ?_ (by simp <;> omega) _ | refine below_step ?_ (by assumption)))⟩
end Go.Proofs.YtbiacfkiakddiaaGreat

namespace Go.Proofs.YtbiacfkiakddiaaGreat
open Go.RowKit Go.Fl
/-- Only blocks from lo on,before hi,may have been written;none was made. -/
structure Mid (lo hi:Nat) (w w':World):Prop where
 low:Below lo w w'
 size:w'.heap.size = w.heap.size
 high:∀ b,hi ≤ b → w'.heap[b]? = w.heap[b]?
theorem Mid.refl (lo hi:Nat) (w:World):Mid lo hi w w:=⟨Below.refl _ _,rfl,fun _ _ => rfl⟩
theorem Mid.trans {lo hi:Nat} {a b c:World} (h:Mid lo hi a b) (k:Mid lo hi b c):Mid lo hi a c :=
 ⟨h.low.trans k.low,k.size.trans h.size,fun i hi => (k.high i hi).trans (h.high i hi)⟩
theorem Mid.set {lo hi:Nat} {a w:World} (h:Mid lo hi a w) {p:Addr} (hp:lo ≤ p.block ∧ p.block < hi) (u:Value):Mid lo hi a (w.setCell p u) :=
 ⟨h.low.setCell hp.1 u,by rw [show (w.setCell p u).heap.size = w.heap.size from by simp [World.setCell]];exact h.size,fun b hb => (Below.heap_setCell _ _ _ _ (by omega)).trans (h.high b hb)⟩

/-- The number that a mark leaves. -/
def mk1 (k:Int):Nat:=floatOfInt .f32 k
/-- A mark equals itself. -/
theorem mk_eq (k:Int):FloatKind.f32.format.order (mk1 k) (mk1 k) = some .eq:=by
 refine order_self ?_
 exact write_not FloatKind.f32.format (d:=.number (k < 0) k.natAbs 0) rfl

end Go.Proofs.YtbiacfkiakddiaaGreat
