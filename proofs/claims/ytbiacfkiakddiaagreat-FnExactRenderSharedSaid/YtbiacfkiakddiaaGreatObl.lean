/-
 Lemmas: L3,C3.
-/
import Derived.Test.YtbiacfkiakddiaaGreatObk
set_option linter.unusedVariables false
set_option linter.unusedSimpArgs false
namespace Go.Proofs.YtbiacfkiakddiaaGreat
open Go.RowKit Go.Fl
/-- A node made anew comes back. -/
def RetN (n:PN) (w:World) (e:Ending) (w':World):Prop :=
 ∃ g,e = .returned (.agg #[.int .i64 n.kind,.int .i64 n.a,.int .i64 n.b,.slice (some ⟨g,0,none⟩) n.nums.length n.nums.length]) ∧ (∀ i (h:i < n.nums.length),w'.cell? ⟨g,0 + i,none⟩ = some (F1 n.nums[i])) ∧ w.heap.size ≤ g ∧ Below w.heap.size w w'

set_option maxRecDepth 100000 in
set_option maxHeartbeats 2000000 in
theorem to_node (n:PN) (hlen:(n.nums.length:Int) ≤ 1048576) (bp:Option Addr) (bv ov cap:Nat) (w:World) (h1:n.nums ≠ [] → bp = some ⟨bv,ov,none⟩) (h2:∀ i (h:i < n.nums.length),w.cell? ⟨bv,ov + i,none⟩ = some (F1 n.nums[i])) :
  Calls Tryz.prog 127 #[.agg #[.int .i64 n.kind,.int .i64 n.a,.int .i64 n.b,.slice bp n.nums.length cap]] w (RetN n w):=by
 have hc:∀ w',Below w.heap.size w w' → Calls Tryz.prog 203 #[.slice bp n.nums.length cap] w' (fun e w'' => ∃ g,e = .returned (.slice (some ⟨g,0,none⟩) n.nums.length n.nums.length) ∧ (∀ i (h:i < n.nums.length),w''.cell? ⟨g,0 + i,none⟩ = some (F1 n.nums[i])) ∧ w'.heap.size ≤ g ∧ Below w'.heap.size w' w'') :=
  fun w' hb => to_floats n.nums hlen bp bv ov cap w' h1 (fun i h => by rw [lift hb _ (by rw [h2 i h];rfl)];exact h2 i h)
 clear h1 h2
 go_enter Tryz.func127,Tryz.ntmps127
 go_wp2_with fail
 have Wb:Below w.heap.size w (((w.alloc (.cells #[.int .i64 n.kind,.int .i64 n.a,.int .i64 n.b,.slice bp n.nums.length cap] 175)).alloc (.cells #[.int .i64 0,.int .i64 0,.int .i64 0,.slice none 0 0] 142)).alloc (.cells #[.int .i64 n.kind,.int .i64 n.a,.int .i64 n.b,.slice none 0 0] 142)):=(by repeat' (first | exact Below.refl _ _ | exact Nat.le_refl _ | refine below_drewN ?_ _ | refine Below.alloc ?_ (by simp <;> omega) _ | refine Below.setCell ?_ (by simp <;> omega) _ | refine below_step ?_ (by assumption)))

 have hkept:Kept [(⟨w.heap.size + 1,0,none⟩,.int .i64 0),(⟨w.heap.size + 1,1,none⟩,.int .i64 0),(⟨w.heap.size + 1,2,none⟩,.int .i64 0),(⟨w.heap.size + 1,3,none⟩,.slice none 0 0),(⟨w.heap.size + 1 + 1,0,none⟩,.int .i64 n.kind),(⟨w.heap.size + 1 + 1,1,none⟩,.int .i64 n.a),(⟨w.heap.size + 1 + 1,2,none⟩,.int .i64 n.b),(⟨w.heap.size + 1 + 1,3,none⟩,.slice none 0 0)] [⟨w.heap.size + 1,0,none⟩,⟨w.heap.size + 1,1,none⟩,⟨w.heap.size + 1,2,none⟩,⟨w.heap.size + 1,3,none⟩,⟨w.heap.size + 1 + 1,3,none⟩] (((w.alloc (.cells #[.int .i64 n.kind,.int .i64 n.a,.int .i64 n.b,.slice bp n.nums.length cap] 175)).alloc (.cells #[.int .i64 0,.int .i64 0,.int .i64 0,.slice none 0 0] 142)).alloc (.cells #[.int .i64 n.kind,.int .i64 n.a,.int .i64 n.b,.slice none 0 0] 142)):=by
  simp only [Kept,ka,kb,kc,kd,ke,kfa,kga];(first | (go_simp;done) | (simp [World.cell?,World.frozen?,World.alloc,Array.getElem?_push];done))
 have hWs:(((w.alloc (.cells #[.int .i64 n.kind,.int .i64 n.a,.int .i64 n.b,.slice bp n.nums.length cap] 175)).alloc (.cells #[.int .i64 0,.int .i64 0,.int .i64 0,.slice none 0 0] 142)).alloc (.cells #[.int .i64 n.kind,.int .i64 n.a,.int .i64 n.b,.slice none 0 0] 142)).heap.size = w.heap.size + 1 + 1 + 1:=by simp
 generalize (((w.alloc (.cells #[.int .i64 n.kind,.int .i64 n.a,.int .i64 n.b,.slice bp n.nums.length cap] 175)).alloc (.cells #[.int .i64 0,.int .i64 0,.int .i64 0,.slice none 0 0] 142)).alloc (.cells #[.int .i64 n.kind,.int .i64 n.a,.int .i64 n.b,.slice none 0 0] 142)) = W at *
 refine (hc _ Wb).mono ?_
 rintro _ w2 ⟨g,rfl,hnum,hg,hb2⟩
 have W2b:=below_step Wb hb2
 have hkept2:=keep hkept hb2
 have hK:=hkept2
 simp only [Kept,ka,kb,kc,kd,ke,kfa,kga] at hK
 have hgs:w.heap.size + 1 + 1 < g:=by omega
 have hH:=Lib.hid hnum
 clear hc hkept hb2 Wb hnum hkept2 hg hWs
 obtain ⟨hK1,hK2⟩:=hK
 go_wp2_with fail
 obtain ⟨hK1a,hK1b⟩:=hK1
 refine bodyPost_ret (v:=.agg #[.int .i64 n.kind,.int .i64 n.a,.int .i64 n.b,.slice (some ⟨g,0,none⟩) n.nums.length n.nums.length]) (by simp [results,Tryz.results127,go_sem,hK1a,hK1b,hK2]) rfl ⟨g,rfl,fun i hi => ?_,by omega,?_⟩
 ·rw [World.cell?_setCell_far _ _ _ _ (by show w.heap.size + 1 ≠ g;omega),World.cell?_setCell_far _ _ _ _ (by show w.heap.size + 1 ≠ g;omega),World.cell?_setCell_far _ _ _ _ (by show w.heap.size + 1 ≠ g;omega),World.cell?_setCell_far _ _ _ _ (by show w.heap.size + 1 ≠ g;omega),World.cell?_setCell_far _ _ _ _ (by show w.heap.size + 1 + 1 ≠ g;omega)]
  exact hH.out i hi
 ·exact ((((W2b.setCell (by show w.heap.size ≤ w.heap.size + 1 + 1;omega) _).setCell (by exact Nat.le_succ _) _).setCell (by exact Nat.le_succ _) _).setCell (by exact Nat.le_succ _) _).setCell (by exact Nat.le_succ _) _

/-- A node in a new list. -/
structure NodeNew (n:PN) (G o:Nat) (w:World):Prop where
 kind:w.cell? ⟨G,o,none⟩ = some (.int .i64 n.kind)
 a:w.cell? ⟨G,o + 1,none⟩ = some (.int .i64 n.a)
 b:w.cell? ⟨G,o + 2,none⟩ = some (.int .i64 n.b)
 nums:∃ g,G < g ∧ w.cell? ⟨G,o + 3,none⟩ = some (.slice (some ⟨g,0,none⟩) n.nums.length n.nums.length) ∧ ∀ i (h:i < n.nums.length),w.cell? ⟨g,0 + i,none⟩ = some (F1 n.nums[i])

theorem NodeNew.into {n:PN} {G o:Nat} {w:World} (h:NodeNew n G o w):NodeIn n G o w:=by
 obtain ⟨g,-,h1,h2⟩:=h.nums
 exact ⟨h.kind,h.a,h.b,some ⟨g,0,none⟩,g,0,_,h1,fun _ => rfl,h2⟩

theorem NodeNew.keep {n:PN} {G o:Nat} {w w':World} (h:NodeNew n G o w) (hb:Below w.heap.size w w'):NodeNew n G o w':=by
 have l:=fun a v (h:w.cell? a = some v) => (show w'.cell? a = some v by rw [lift hb a (by rw [h];rfl)];exact h)
 obtain ⟨g,h0,h1,h2⟩:=h.nums
 exact ⟨l _ _ h.kind,l _ _ h.a,l _ _ h.b,g,h0,l _ _ h1,fun i hi => l _ _ (h2 i hi)⟩

theorem NodeNew.far {n:PN} {G o:Nat} {w:World} (h:NodeNew n G o w) (p:Addr) (hp:p.block < G) (v:Value):NodeNew n G o (w.setCell p v):=by
 obtain ⟨g,h0,h1,h2⟩:=h.nums
 have l:∀ b k,p.block ≠ b → (w.setCell p v).cell? ⟨b,k,none⟩ = w.cell? ⟨b,k,none⟩:=fun b k hb => World.cell?_setCell_far _ _ _ _ hb
 exact ⟨by rw [l _ _ (by omega)];exact h.kind,by rw [l _ _ (by omega)];exact h.a,by rw [l _ _ (by omega)];exact h.b,g,h0,by rw [l _ _ (by omega)];exact h1,fun i hi => by rw [l _ _ (by omega)];exact h2 i hi⟩

theorem NodeNew.set {n:PN} {G o:Nat} {w:World} (h:NodeNew n G o w) (j:Nat) (hj:j < o ∨ o + 4 ≤ j) (v:Value):NodeNew n G o (w.setCell ⟨G,j,none⟩ v):=by
 have l:=fun k u (hk:o ≤ k ∧ k < o + 4) (h:w.cell? ⟨G,k,none⟩ = some u) => (show (w.setCell ⟨G,j,none⟩ v).cell? ⟨G,k,none⟩ = some u by
  exact (World.cell?_setCell_other (w:=w) (a:=⟨G,j,none⟩) (b:=⟨G,k,none⟩) (v:=v) (by intro e;injection e with _ e;omega)).trans h)
 obtain ⟨g,h0,h1,h2⟩:=h.nums
 exact ⟨l _ _ (by omega) h.kind,l _ _ (by omega) h.a,l _ _ (by omega) h.b,g,h0,l _ _ (by omega) h1,fun i hi => by rw [World.cell?_setCell_far _ _ _ _ (by show G ≠ g;omega)];exact h2 i hi⟩

theorem NodeNew.made {n:PN} {G o g:Nat} {w:World} {A:Array Value} {T:TypeId} (hA:w.heap[G]? = some (.cells A T (0,0))) (hs:o + 4 ≤ A.size) (hg:G < g) (h2:∀ i (h:i < n.nums.length),w.cell? ⟨g,0 + i,none⟩ = some (F1 n.nums[i])) :
  NodeNew n G o ((((w.setCell ⟨G,o,none⟩ (.int .i64 n.kind)).setCell ⟨G,o + 1,none⟩ (.int .i64 n.a)).setCell ⟨G,o + 2,none⟩ (.int .i64 n.b)).setCell ⟨G,o + 3,none⟩ (.slice (some ⟨g,0,none⟩) n.nums.length n.nums.length)):=by
 have h4:=arr_set (arr_set (arr_set (arr_set hA o (.int .i64 n.kind)) (o + 1) (.int .i64 n.a)) (o + 2) (.int .i64 n.b)) (o + 3) (.slice (some ⟨g,0,none⟩) n.nums.length n.nums.length)
 have hf:∀ i,((((w.setCell ⟨G,o,none⟩ (.int .i64 n.kind)).setCell ⟨G,o + 1,none⟩ (.int .i64 n.a)).setCell ⟨G,o + 2,none⟩ (.int .i64 n.b)).setCell ⟨G,o + 3,none⟩ (.slice (some ⟨g,0,none⟩) n.nums.length n.nums.length)).cell? ⟨g,i,none⟩ = w.cell? ⟨g,i,none⟩:=fun i => by
  rw [World.cell?_setCell_far _ _ _ _ (by show G ≠ g;omega),World.cell?_setCell_far _ _ _ _ (by show G ≠ g;omega),World.cell?_setCell_far _ _ _ _ (by show G ≠ g;omega),World.cell?_setCell_far _ _ _ _ (by show G ≠ g;omega)]
 have e0:o < A.size:=by omega
 have e1:o + 1 < A.size:=by omega
 have e2:o + 2 < A.size:=by omega
 have e3:o + 3 < A.size:=by omega
 refine ⟨?_,?_,?_,g,hg,?_,fun i hi => by rw [hf];exact h2 i hi⟩
 all_goals rw [arr_cell h4]
 ·rw [Array.getElem?_setIfInBounds_ne (by omega),Array.getElem?_setIfInBounds_ne (by omega),Array.getElem?_setIfInBounds_ne (by omega),Array.getElem?_setIfInBounds_self_of_lt e0]
 ·rw [Array.getElem?_setIfInBounds_ne (by omega),Array.getElem?_setIfInBounds_ne (by omega),Array.getElem?_setIfInBounds_self_of_lt (by simpa using e1)]
 ·rw [Array.getElem?_setIfInBounds_ne (by omega),Array.getElem?_setIfInBounds_self_of_lt (by simpa using e2)]
 ·rw [Array.getElem?_setIfInBounds_self_of_lt (by simpa using e3)]

theorem node_info:(Tryz.prog.info? 142).map (fun i => (i.zero,i.size,i.bytes)) = some (some (.agg #[.int .i64 0,.int .i64 0,.int .i64 0,.slice none 0 0]),4,48):=by kernel_rfl

theorem make_nodes (n:Nat) (hn:(n:Int) ≤ 1048576) (w:World):∃ A:Array Value,A.size = n * 4 ∧ (Instr.makeSlice 34 (.int .i64 (n:Int)) (.int .i64 (n:Int))).run Tryz.prog w = .ok (.slice (some ⟨w.heap.size,0,none⟩) n n) (w.alloc (.cells A 142)):=by
 obtain ⟨i0,hi,hz0,hz1,hz2⟩:=info_parts node_info
 have h:=run_make (P:=Tryz.prog) w 34 142 i0 _ Tryz.underlying34 hi hz0 .i64 .i64 n n (by omega) (by omega) (by rw [hz2];omega) (by omega)
 rw [hz1] at h
 refine ⟨_,?_,h⟩
 simp [madeCells]

set_option maxRecDepth 100000 in
set_option maxHeartbeats 4000000 in
theorem to_nodes (ns:List PN) (hlen:(ns.length:Int) ≤ 1048576) (hnum:∀ n ∈ ns,(n.nums.length:Int) ≤ 1048576) (bp:Option Addr) (nb no cap:Nat) (w:World) (hns:NodesIn ns bp nb no w) :
  Calls Tryz.prog 63 #[.slice bp ns.length cap] w (fun e w' => ∃ G,e = .returned (.slice (some ⟨G,0,none⟩) ns.length ns.length) ∧ (∀ i (h:i < ns.length),NodeNew ns[i] G (0 + i * 4) w') ∧ w.heap.size ≤ G ∧ Below w.heap.size w w'):=by
 obtain ⟨A,hA,hmk⟩:=make_nodes ns.length hlen w
 go_enter Tryz.func63,Tryz.ntmps63
 go_wp2_with fail
 have W1b:Below w.heap.size w (w.alloc (.cells A 142)):=(by repeat' (first | exact Below.refl _ _ | exact Nat.le_refl _ | refine below_drewN ?_ _ | refine Below.alloc ?_ (by simp <;> omega) _ | refine Below.setCell ?_ (by simp <;> omega) _ | refine below_step ?_ (by assumption)))

 have hpar:=heap_alloc_at w (.cells A 142)
 generalize w.alloc (.cells A 142) = W1 at *
 clear hmk
 go_loopw [4] (fun i wr => ∃ (m:Nat) (A:Array Value),m ≤ ns.length ∧ i = .int .i64 (m:Int) ∧ A.size = ns.length * 4 ∧ wr.heap[w.heap.size]? = some (.cells A 142 (0,0)) ∧ (∀ k (h:k < ns.length),k < m → NodeNew ns[k] w.heap.size (k * 4) wr) ∧ Below w.heap.size w wr) (fun i _ => ns.length - (intOf i).toNat)
 case atStart => exact ⟨0,A,by omega,rfl,hA,hpar,fun k _ h => by omega,W1b⟩
 case round =>
  obtain ⟨m,A',hm,rfl,hA',hpar',hk,Wb⟩:=hrel
  clear hpar W1b
  by_cases hlt:m < ns.length
  ·have hlt':(m:Int) < (ns.length:Int):=by omega
   have h0:(0:Int) ≤ (m:Int):=by omega
   have hne:ns ≠ []:=by intro h;rw [h] at hlt;simp at hlt
   have hbp:=hns.ptr hne
   subst hbp
   have hn:=(hns.node m hlt).keep Wb
   have hnl:=hnum ns[m] (List.getElem_mem _)
   obtain ⟨np,nv,nvo,ncap,hn4,hn5,hn6⟩:=hn.nums
   have hn1:=hn.kind
   have hn2:=hn.a
   have hn3:=hn.b
   have hGs:w.heap.size < wr.heap.size:=(Array.getElem?_eq_some_iff.1 hpar').1
   have hc:=to_node ns[m] hnl np nv nvo ncap wr hn5 hn6
   have hkeep:∀ w2,Below wr.heap.size wr w2 → ∀ k (h:k < ns.length),k < m → NodeNew ns[k] w.heap.size (k * 4) w2:=fun w2 hb k h hkm => (hk k h hkm).keep hb
   have hHk:=Lib.hid hkeep
   have hHp:=Lib.hid hpar'
   have hHns:=Lib.hid hns
   have hHnum:=Lib.hid hnum
   have hnm:ns[m] = ns[m]:=rfl
   clear hn hn5 hn6 hnl hk hkeep hpar' hns hnum hnm
   have hold:Hid (ns[m] = ns[m]):=rfl
   generalize hgn:ns[m] = n at hn1 hn2 hn3 hn4 hc
   have hHgn:=Lib.hid hgn
   clear hgn hold
   go_wp2_with fail
   refine hc.mono ?_
   rintro _ w2 ⟨g,rfl,hg2,hgs,hb2⟩
   have hpar2:w2.heap[w.heap.size]? = some (.cells A' 142 (0,0)):=by rw [hb2.block _ hGs];exact hHp.out
   have hcell:∀ j (hj:j < 4),w2.cell? ⟨w.heap.size,m * 4 + j,none⟩ = some (A'[m * 4 + j]'(by omega)):=fun j hj => by rw [arr_cell hpar2,Array.getElem?_eq_getElem (by omega)]
   have hc0:w2.cell? ⟨w.heap.size,m * 4,none⟩ = some (A'[m * 4]'(by omega)):=by rw [arr_cell hpar2,Array.getElem?_eq_getElem (by omega)]
   have hc1:=hcell 1 (by omega)
   have hc2:=hcell 2 (by omega)
   have hc3:=hcell 3 (by omega)
   have hfz:=arr_frozen hpar2
   have hmade:=NodeNew.made (n:=n) (o:=m * 4) hpar2 (by omega) (show w.heap.size < g by omega) hg2
   have h4:=arr_set (arr_set (arr_set (arr_set hpar2 (m * 4) (.int .i64 n.kind)) (m * 4 + 1) (.int .i64 n.a)) (m * 4 + 2) (.int .i64 n.b)) (m * 4 + 3) (.slice (some ⟨g,0,none⟩) n.nums.length n.nums.length)
   have hb4:=((((below_step Wb hb2).setCell (p:=⟨w.heap.size,m * 4,none⟩) (Nat.le_refl _) (.int .i64 n.kind)).setCell (p:=⟨w.heap.size,m * 4 + 1,none⟩) (Nat.le_refl _) (.int .i64 n.a)).setCell (p:=⟨w.heap.size,m * 4 + 2,none⟩) (Nat.le_refl _) (.int .i64 n.b)).setCell (p:=⟨w.heap.size,m * 4 + 3,none⟩) (Nat.le_refl _) (.slice (some ⟨g,0,none⟩) n.nums.length n.nums.length)
   have hall:Hid (∀ k (h:k < ns.length),k < m + 1 → NodeNew ns[k] w.heap.size (k * 4) ((((w2.setCell ⟨w.heap.size,m * 4,none⟩ (.int .i64 n.kind)).setCell ⟨w.heap.size,m * 4 + 1,none⟩ (.int .i64 n.a)).setCell ⟨w.heap.size,m * 4 + 2,none⟩ (.int .i64 n.b)).setCell ⟨w.heap.size,m * 4 + 3,none⟩ (.slice (some ⟨g,0,none⟩) n.nums.length n.nums.length))):=fun k h hkm => by
    by_cases hkm':k = m
    ·subst hkm'
     rw [hHgn.out];exact hmade
    ·exact (((((hHk.out w2 hb2 k h (by omega)).set _ (by omega) _).set _ (by omega) _).set _ (by omega) _).set _ (by omega) _)
   have hH4:=Lib.hid h4
   clear hcell hmade h4 hpar2 hg2 hc hb2
   go_wp2_with fail
   exact ⟨⟨m + 1,_,by omega,by simp,by simpa using hA',hH4.out,hall.out,hb4⟩,by simp [intOf];omega⟩
  ·obtain rfl:m = ns.length:=by omega
   have hH:=Lib.hid hk
   clear hk hpar' hns hnum
   go_wp2_with fail
   go_ret
   exact ⟨w.heap.size,rfl,fun i hi => by rw [Nat.zero_add];exact hH.out i hi hi,Nat.le_refl _,Wb⟩
end Go.Proofs.YtbiacfkiakddiaaGreat

namespace Go.Proofs.YtbiacfkiakddiaaGreat
open Go.RowKit Go.Fl
theorem row_form {w:World} {base:Nat} {e:TypeId} {size n:Nat} {v:Value} {xs:List Value} (h:w.ownsRow base e size v n xs):(v = .slice none 0 0 ∧ n = 0) ∨ ∃ g cap,v = .slice (some ⟨g,0,none⟩) n cap ∧ base ≤ g ∧ g < w.heap.size:=by
 rcases h.2 with h0 | ⟨g,cap,cur,hv,hb,hg,_⟩
 ·exact .inl h0
 ·exact .inr ⟨g,cap,hv,hb,(Array.getElem?_eq_some_iff.1 hg).1⟩
/-- A list of integers that can be read. -/
def IlRd (v:Value) (xs:List Int) (w:World):Prop:=∃ bp g cap,v = .slice bp xs.length cap ∧ (xs ≠ [] → bp = some ⟨g,0,none⟩) ∧ ∀ i (h:i < xs.length),w.cell? ⟨g,i,none⟩ = some (.int .i64 xs[i])
theorem IlRd.keep {v:Value} {xs:List Int} {w w':World} (h:IlRd v xs w) (hb:Below w.heap.size w w'):IlRd v xs w':=by
 obtain ⟨bp,g,cap,h1,h2,h3⟩:=h
 exact ⟨bp,g,cap,h1,h2,fun i hi => by rw [lift hb _ (by rw [h3 i hi];rfl)];exact h3 i hi⟩
end Go.Proofs.YtbiacfkiakddiaaGreat
