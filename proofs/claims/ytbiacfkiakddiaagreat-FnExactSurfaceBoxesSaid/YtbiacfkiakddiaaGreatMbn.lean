/-
 Lemmas: U6,C4,U7,U8,U9,V16.
-/
import Derived.Test.YtbiacfkiakddiaaGreatMbm
set_option linter.unusedVariables false
set_option linter.unusedSimpArgs false
namespace Go.Proofs.YtbiacfkiakddiaaGreat
open Go.RowKit Go.Fl
set_option maxRecDepth 100000 in
set_option maxHeartbeats 4000000 in
theorem to_floatsW (xs:List Nat) (hlen:(xs.length:Int) ≤ 1048576) (bp:Option Addr) (bv ov cap:Nat) (w:World) (h1:xs ≠ [] → bp = some ⟨bv,ov,none⟩) (h2:∀ i (h:i < xs.length),w.cell? ⟨bv,ov + i,none⟩ = some (F1 xs[i])) :
  Calls Tryz.prog 203 #[.slice bp xs.length cap] w (fun e w' => ∃ g,e = .returned (.slice (some ⟨g,0,none⟩) xs.length xs.length) ∧ (∀ i (h:i < xs.length),w'.cell? ⟨g,0 + i,none⟩ = some (F1 xs[i])) ∧ w.heap.size ≤ g ∧ Below w.heap.size w w' ∧ g < w'.heap.size ∧ ∀ o,w'.frozen? ⟨g,o,none⟩ = false):=by
 obtain ⟨A,hA,hmk⟩:=make_floats xs.length hlen w
 go_enter Tryz.func203,Tryz.ntmps203
 go_wp2_with fail
 have W1b:Below w.heap.size w (w.alloc (.cells A 25)):=(by repeat' (first | exact Below.refl _ _ | exact Nat.le_refl _ | refine below_drewN ?_ _ | refine Below.alloc ?_ (by simp <;> omega) _ | refine Below.setCell ?_ (by simp <;> omega) _ | refine below_step ?_ (by assumption)))

 have hpar:=heap_alloc_at w (.cells A 25)
 generalize w.alloc (.cells A 25) = W1 at *
 clear hmk
 go_loopw [4] (fun i wr => ∃ (m:Nat) (A:Array Value),m ≤ xs.length ∧ i = .int .i64 (m:Int) ∧ A.size = xs.length ∧ wr.heap[w.heap.size]? = some (.cells A 25 (0,0)) ∧ (∀ k (h:k < xs.length),k < m → A[k]? = some (F1 xs[k])) ∧ Below w.heap.size w wr) (fun i _ => xs.length - (intOf i).toNat)
 case atStart => exact ⟨0,A,by omega,rfl,hA,hpar,fun k _ h => by omega,W1b⟩
 case round =>
  obtain ⟨m,A',hm,rfl,hA',hpar',hk,Wb⟩:=hrel
  clear hpar W1b
  by_cases hlt:m < xs.length
  ·have hlt':(m:Int) < (xs.length:Int):=by omega
   have h0:(0:Int) ≤ (m:Int):=by omega
   have hne:xs ≠ []:=by intro h;rw [h] at hlt;simp at hlt
   have hbp:=h1 hne
   subst hbp
   have hc:wr.cell? ⟨bv,ov + m,none⟩ = some (F1 xs[m]):=by rw [lift Wb _ (by rw [h2 m hlt];rfl)];exact h2 m hlt
   have hold:wr.cell? ⟨w.heap.size,m,none⟩ = some (A'[m]'(by omega)):=by rw [arr_cell hpar',Array.getElem?_eq_getElem (by omega)]
   have hfz:=arr_frozen hpar'
   have hset:=arr_set hpar' m (F1 xs[m])
   have hb3:=Wb.setCell (p:=⟨w.heap.size,m,none⟩) (Nat.le_refl _) (Value.float .f32 xs[m])
   have hnew:Hid (∀ k (h:k < xs.length),k < m + 1 → (A'.setIfInBounds m (F1 xs[m]))[k]? = some (F1 xs[k])):=fun k h hkm => by
    by_cases hkm':k = m
    ·subst hkm'
     rw [Array.getElem?_setIfInBounds_self_of_lt (by omega)]
    ·rw [Array.getElem?_setIfInBounds_ne (by omega)]
     exact hk k h (by omega)
   have hH:=Lib.hid hset
   clear hk hset hpar' h2 h1
   generalize xs[m] = xv at hc hb3 hH hnew
   go_wp2_with fail
   exact ⟨⟨m + 1,_,by omega,by simp,by simpa using hA',hH.out,hnew.out,hb3⟩,by simp [intOf];omega⟩
  ·obtain rfl:m = xs.length:=by omega
   have hH:=Lib.hid hk
   have hP:=Lib.hid hpar'
   clear hk hpar' h1 h2
   go_wp2_with fail
   go_ret
   exact ⟨w.heap.size,rfl,fun i hi => by rw [Nat.zero_add,arr_cell hP.out];exact hH.out i hi hi,Nat.le_refl _,Wb,(Array.getElem?_eq_some_iff.1 hP.out).1,fun o => arr_frozen hP.out o⟩

def RetNW (n:PN) (w:World) (e:Ending) (w':World):Prop :=
 ∃ g,e = .returned (.agg #[.int .i64 n.kind,.int .i64 n.a,.int .i64 n.b,.slice (some ⟨g,0,none⟩) n.nums.length n.nums.length]) ∧ (∀ i (h:i < n.nums.length),w'.cell? ⟨g,0 + i,none⟩ = some (F1 n.nums[i])) ∧ w.heap.size ≤ g ∧ Below w.heap.size w w' ∧ g < w'.heap.size ∧ ∀ o,w'.frozen? ⟨g,o,none⟩ = false

set_option maxRecDepth 100000 in
set_option maxHeartbeats 4000000 in
theorem to_nodeW (n:PN) (hlen:(n.nums.length:Int) ≤ 1048576) (bp:Option Addr) (bv ov cap:Nat) (w:World) (h1:n.nums ≠ [] → bp = some ⟨bv,ov,none⟩) (h2:∀ i (h:i < n.nums.length),w.cell? ⟨bv,ov + i,none⟩ = some (F1 n.nums[i])) :
  Calls Tryz.prog 127 #[.agg #[.int .i64 n.kind,.int .i64 n.a,.int .i64 n.b,.slice bp n.nums.length cap]] w (RetNW n w):=by
 have hc:∀ w',Below w.heap.size w w' → Calls Tryz.prog 203 #[.slice bp n.nums.length cap] w' (fun e w'' => ∃ g,e = .returned (.slice (some ⟨g,0,none⟩) n.nums.length n.nums.length) ∧ (∀ i (h:i < n.nums.length),w''.cell? ⟨g,0 + i,none⟩ = some (F1 n.nums[i])) ∧ w'.heap.size ≤ g ∧ Below w'.heap.size w' w'' ∧ g < w''.heap.size ∧ ∀ o,w''.frozen? ⟨g,o,none⟩ = false) :=
  fun w' hb => to_floatsW n.nums hlen bp bv ov cap w' h1 (fun i h => by rw [lift hb _ (by rw [h2 i h];rfl)];exact h2 i h)
 clear h1 h2
 go_enter Tryz.func127,Tryz.ntmps127
 go_wp2_with fail
 have Wb:Below w.heap.size w (((w.alloc (.cells #[.int .i64 n.kind,.int .i64 n.a,.int .i64 n.b,.slice bp n.nums.length cap] 175)).alloc (.cells #[.int .i64 0,.int .i64 0,.int .i64 0,.slice none 0 0] 142)).alloc (.cells #[.int .i64 n.kind,.int .i64 n.a,.int .i64 n.b,.slice none 0 0] 142)):=(by repeat' (first | exact Below.refl _ _ | exact Nat.le_refl _ | refine below_drewN ?_ _ | refine Below.alloc ?_ (by simp <;> omega) _ | refine Below.setCell ?_ (by simp <;> omega) _ | refine below_step ?_ (by assumption)))

 have hkept:Kept [(⟨w.heap.size + 1,0,none⟩,.int .i64 0),(⟨w.heap.size + 1,1,none⟩,.int .i64 0),(⟨w.heap.size + 1,2,none⟩,.int .i64 0),(⟨w.heap.size + 1,3,none⟩,.slice none 0 0),(⟨w.heap.size + 1 + 1,0,none⟩,.int .i64 n.kind),(⟨w.heap.size + 1 + 1,1,none⟩,.int .i64 n.a),(⟨w.heap.size + 1 + 1,2,none⟩,.int .i64 n.b),(⟨w.heap.size + 1 + 1,3,none⟩,.slice none 0 0)] [⟨w.heap.size + 1,0,none⟩,⟨w.heap.size + 1,1,none⟩,⟨w.heap.size + 1,2,none⟩,⟨w.heap.size + 1,3,none⟩,⟨w.heap.size + 1 + 1,3,none⟩] (((w.alloc (.cells #[.int .i64 n.kind,.int .i64 n.a,.int .i64 n.b,.slice bp n.nums.length cap] 175)).alloc (.cells #[.int .i64 0,.int .i64 0,.int .i64 0,.slice none 0 0] 142)).alloc (.cells #[.int .i64 n.kind,.int .i64 n.a,.int .i64 n.b,.slice none 0 0] 142)):=by
  simp only [Kept,ka,kb,kc,kd,ke,kf,kg];(first | (go_simp;done) | (simp [World.cell?,World.frozen?,World.alloc,Array.getElem?_push];done))
 have hWs:(((w.alloc (.cells #[.int .i64 n.kind,.int .i64 n.a,.int .i64 n.b,.slice bp n.nums.length cap] 175)).alloc (.cells #[.int .i64 0,.int .i64 0,.int .i64 0,.slice none 0 0] 142)).alloc (.cells #[.int .i64 n.kind,.int .i64 n.a,.int .i64 n.b,.slice none 0 0] 142)).heap.size = w.heap.size + 1 + 1 + 1:=by simp
 generalize (((w.alloc (.cells #[.int .i64 n.kind,.int .i64 n.a,.int .i64 n.b,.slice bp n.nums.length cap] 175)).alloc (.cells #[.int .i64 0,.int .i64 0,.int .i64 0,.slice none 0 0] 142)).alloc (.cells #[.int .i64 n.kind,.int .i64 n.a,.int .i64 n.b,.slice none 0 0] 142)) = W at *
 refine (hc _ Wb).mono ?_
 rintro _ w2 ⟨g,rfl,hnum,hg,hb2,hgz,hfr⟩
 have hF:=Lib.hid hfr
 have hZ:=Lib.hid hgz
 clear hfr hgz
 have W2b:=below_step Wb hb2
 have hkept2:=keep hkept hb2
 have hK:=hkept2
 simp only [Kept,ka,kb,kc,kd,ke,kf,kg] at hK
 have hgs:w.heap.size + 1 + 1 < g:=by omega
 have hH:=Lib.hid hnum
 clear hc hkept hb2 Wb hnum hkept2 hg hWs
 obtain ⟨hK1,hK2⟩:=hK
 go_wp2_with fail
 obtain ⟨hK1a,hK1b⟩:=hK1
 refine bodyPost_ret (v:=.agg #[.int .i64 n.kind,.int .i64 n.a,.int .i64 n.b,.slice (some ⟨g,0,none⟩) n.nums.length n.nums.length]) (by simp [results,Tryz.results127,go_sem,hK1a,hK1b,hK2]) rfl ⟨g,rfl,fun i hi => ?_,by omega,?_,?_,fun o => ?_⟩
 ·rw [World.cell?_setCell_far _ _ _ _ (by show w.heap.size + 1 ≠ g;omega),World.cell?_setCell_far _ _ _ _ (by show w.heap.size + 1 ≠ g;omega),World.cell?_setCell_far _ _ _ _ (by show w.heap.size + 1 ≠ g;omega),World.cell?_setCell_far _ _ _ _ (by show w.heap.size + 1 ≠ g;omega),World.cell?_setCell_far _ _ _ _ (by show w.heap.size + 1 + 1 ≠ g;omega)]
  exact hH.out i hi
 ·exact ((((W2b.setCell (by show w.heap.size ≤ w.heap.size + 1 + 1;omega) _).setCell (by exact Nat.le_succ _) _).setCell (by exact Nat.le_succ _) _).setCell (by exact Nat.le_succ _) _).setCell (by exact Nat.le_succ _) _
 ·simpa [World.setCell] using hZ.out
 ·simp only [World.frozen?_setCell]
  exact hF.out o

/-- The numbers of a node can be written. -/
def NumFree (G o:Nat) (w:World):Prop:=∃ g n m,G < g ∧ w.cell? ⟨G,o + 3,none⟩ = some (.slice (some ⟨g,0,none⟩) n m) ∧ g < w.heap.size ∧ ∀ j,w.frozen? ⟨g,j,none⟩ = false
theorem froz_keep {w w':World} {g j:Nat} (hg:g < w.heap.size) (hb:Below w.heap.size w w'):w'.frozen? ⟨g,j,none⟩ = w.frozen? ⟨g,j,none⟩:=by
 simp only [World.frozen?]
 rw [hb.block g hg]
theorem NumFree.keep {G o:Nat} {w w':World} (h:NumFree G o w) (hb:Below w.heap.size w w'):NumFree G o w':=by
 obtain ⟨g,n,m,h0,h1,h2,h3⟩:=h
 exact ⟨g,n,m,h0,by rw [lift hb _ (by rw [h1];rfl)];exact h1,Nat.lt_of_lt_of_le h2 hb.size,fun j => by rw [froz_keep h2 hb];exact h3 j⟩
theorem NumFree.set {G o:Nat} {w:World} (h:NumFree G o w) (j:Nat) (hj:j < o ∨ o + 4 ≤ j) (v:Value):NumFree G o (w.setCell ⟨G,j,none⟩ v):=by
 obtain ⟨g,n,m,h0,h1,h2,h3⟩:=h
 refine ⟨g,n,m,h0,?_,by simpa [World.setCell] using h2,fun j => by rw [World.frozen?_setCell];exact h3 j⟩
 exact (World.cell?_setCell_other (w:=w) (a:=⟨G,j,none⟩) (b:=⟨G,o + 3,none⟩) (v:=v) (by intro e;injection e with _ e;omega)).trans h1
theorem NumFree.made {G o g:Nat} {w:World} {A:Array Value} {T:TypeId} {a b c:Value} {n m:Nat} (hA:w.heap[G]? = some (.cells A T (0,0))) (hs:o + 4 ≤ A.size) (hg:G < g) (hgs:g < w.heap.size) (hf:∀ j,w.frozen? ⟨g,j,none⟩ = false) :
  NumFree G o ((((w.setCell ⟨G,o,none⟩ a).setCell ⟨G,o + 1,none⟩ b).setCell ⟨G,o + 2,none⟩ c).setCell ⟨G,o + 3,none⟩ (.slice (some ⟨g,0,none⟩) n m)):=by
 have h4:=arr_set (arr_set (arr_set (arr_set hA o a) (o + 1) b) (o + 2) c) (o + 3) (.slice (some ⟨g,0,none⟩) n m)
 refine ⟨g,n,m,hg,?_,by simpa [World.setCell] using hgs,fun j => by simp only [World.frozen?_setCell];exact hf j⟩
 rw [arr_cell h4,Array.getElem?_setIfInBounds_self_of_lt (by simp;omega)]

set_option maxRecDepth 100000 in
set_option maxHeartbeats 4000000 in
theorem to_nodesW (ns:List PN) (hlen:(ns.length:Int) ≤ 1048576) (hnum:∀ n ∈ ns,(n.nums.length:Int) ≤ 1048576) (bp:Option Addr) (nb no cap:Nat) (w:World) (hns:NodesIn ns bp nb no w) :
  Calls Tryz.prog 63 #[.slice bp ns.length cap] w (fun e w' => ∃ G,e = .returned (.slice (some ⟨G,0,none⟩) ns.length ns.length) ∧ (∀ i (h:i < ns.length),NodeNew ns[i] G (0 + i * 4) w' ∧ NumFree G (0 + i * 4) w') ∧ w.heap.size ≤ G ∧ Below w.heap.size w w' ∧ (G < w'.heap.size ∧ ∀ o,w'.frozen? ⟨G,o,none⟩ = false)):=by
 obtain ⟨A,hA,hmk⟩:=make_nodes ns.length hlen w
 go_enter Tryz.func63,Tryz.ntmps63
 go_wp2_with fail
 have W1b:Below w.heap.size w (w.alloc (.cells A 142)):=(by repeat' (first | exact Below.refl _ _ | exact Nat.le_refl _ | refine below_drewN ?_ _ | refine Below.alloc ?_ (by simp <;> omega) _ | refine Below.setCell ?_ (by simp <;> omega) _ | refine below_step ?_ (by assumption)))

 have hpar:=heap_alloc_at w (.cells A 142)
 generalize w.alloc (.cells A 142) = W1 at *
 clear hmk
 go_loopw [4] (fun i wr => ∃ (m:Nat) (A:Array Value),m ≤ ns.length ∧ i = .int .i64 (m:Int) ∧ A.size = ns.length * 4 ∧ wr.heap[w.heap.size]? = some (.cells A 142 (0,0)) ∧ (∀ k (h:k < ns.length),k < m → NodeNew ns[k] w.heap.size (k * 4) wr ∧ NumFree w.heap.size (k * 4) wr) ∧ Below w.heap.size w wr) (fun i _ => ns.length - (intOf i).toNat)
 case atStart => exact ⟨0,A,by omega,rfl,hA,hpar,fun k _ h => by omega,W1b⟩
 case round =>
  obtain ⟨m,A',hm,rfl,hA',hpar',hk,Wb⟩:=hrel
  clear hpar W1b
  by_cases hlt:m < ns.length
  ·have hlt':(m:Int) < (ns.length:Int):=by omega
   have h0:(0:Int) ≤ (m:Int):=by omega
   have hne:ns ≠ []:=by intro h;rw [h] at hlt;simp at hlt
   have hbp:=hns.ptr hne
   subst hbp
   have hn:=(hns.node m hlt).keep Wb
   have hnl:=hnum ns[m] (List.getElem_mem _)
   obtain ⟨np,nv,nvo,ncap,hn4,hn5,hn6⟩:=hn.nums
   have hn1:=hn.kind
   have hn2:=hn.a
   have hn3:=hn.b
   have hGs:w.heap.size < wr.heap.size:=(Array.getElem?_eq_some_iff.1 hpar').1
   have hc:=to_nodeW ns[m] hnl np nv nvo ncap wr hn5 hn6
   have hkeep:∀ w2,Below wr.heap.size wr w2 → ∀ k (h:k < ns.length),k < m → NodeNew ns[k] w.heap.size (k * 4) w2 ∧ NumFree w.heap.size (k * 4) w2:=fun w2 hb k h hkm => ⟨(hk k h hkm).1.keep hb,(hk k h hkm).2.keep hb⟩
   have hHk:=Lib.hid hkeep
   have hHp:=Lib.hid hpar'
   have hHns:=Lib.hid hns
   have hHnum:=Lib.hid hnum
   have hnm:ns[m] = ns[m]:=rfl
   clear hn hn5 hn6 hnl hk hkeep hpar' hns hnum hnm
   have hold:Hid (ns[m] = ns[m]):=rfl
   generalize hgn:ns[m] = n at hn1 hn2 hn3 hn4 hc
   have hHgn:=Lib.hid hgn
   clear hgn hold
   go_wp2_with fail
   refine hc.mono ?_
   rintro _ w2 ⟨g,rfl,hg2,hgs,hb2,hgz,hfr⟩
   have hpar2:w2.heap[w.heap.size]? = some (.cells A' 142 (0,0)):=by rw [hb2.block _ hGs];exact hHp.out
   have hcell:∀ j (hj:j < 4),w2.cell? ⟨w.heap.size,m * 4 + j,none⟩ = some (A'[m * 4 + j]'(by omega)):=fun j hj => by rw [arr_cell hpar2,Array.getElem?_eq_getElem (by omega)]
   have hc0:w2.cell? ⟨w.heap.size,m * 4,none⟩ = some (A'[m * 4]'(by omega)):=by rw [arr_cell hpar2,Array.getElem?_eq_getElem (by omega)]
   have hc1:=hcell 1 (by omega)
   have hc2:=hcell 2 (by omega)
   have hc3:=hcell 3 (by omega)
   have hfz:=arr_frozen hpar2
   have hmade:=NodeNew.made (n:=n) (o:=m * 4) hpar2 (by omega) (show w.heap.size < g by omega) hg2
   have h4:=arr_set (arr_set (arr_set (arr_set hpar2 (m * 4) (.int .i64 n.kind)) (m * 4 + 1) (.int .i64 n.a)) (m * 4 + 2) (.int .i64 n.b)) (m * 4 + 3) (.slice (some ⟨g,0,none⟩) n.nums.length n.nums.length)
   have hb4:=((((below_step Wb hb2).setCell (p:=⟨w.heap.size,m * 4,none⟩) (Nat.le_refl _) (.int .i64 n.kind)).setCell (p:=⟨w.heap.size,m * 4 + 1,none⟩) (Nat.le_refl _) (.int .i64 n.a)).setCell (p:=⟨w.heap.size,m * 4 + 2,none⟩) (Nat.le_refl _) (.int .i64 n.b)).setCell (p:=⟨w.heap.size,m * 4 + 3,none⟩) (Nat.le_refl _) (.slice (some ⟨g,0,none⟩) n.nums.length n.nums.length)
   have hall:Hid (∀ k (h:k < ns.length),k < m + 1 → NodeNew ns[k] w.heap.size (k * 4) ((((w2.setCell ⟨w.heap.size,m * 4,none⟩ (.int .i64 n.kind)).setCell ⟨w.heap.size,m * 4 + 1,none⟩ (.int .i64 n.a)).setCell ⟨w.heap.size,m * 4 + 2,none⟩ (.int .i64 n.b)).setCell ⟨w.heap.size,m * 4 + 3,none⟩ (.slice (some ⟨g,0,none⟩) n.nums.length n.nums.length)) ∧ NumFree w.heap.size (k * 4) ((((w2.setCell ⟨w.heap.size,m * 4,none⟩ (.int .i64 n.kind)).setCell ⟨w.heap.size,m * 4 + 1,none⟩ (.int .i64 n.a)).setCell ⟨w.heap.size,m * 4 + 2,none⟩ (.int .i64 n.b)).setCell ⟨w.heap.size,m * 4 + 3,none⟩ (.slice (some ⟨g,0,none⟩) n.nums.length n.nums.length))):=fun k h hkm => by
    by_cases hkm':k = m
    ·subst hkm'
     rw [hHgn.out];exact ⟨hmade,NumFree.made hpar2 (by omega) (show w.heap.size < g by omega) hgz hfr⟩
    ·exact ⟨(((((hHk.out w2 hb2 k h (by omega)).1.set _ (by omega) _).set _ (by omega) _).set _ (by omega) _).set _ (by omega) _),(((((hHk.out w2 hb2 k h (by omega)).2.set _ (by omega) _).set _ (by omega) _).set _ (by omega) _).set _ (by omega) _)⟩
   have hH4:=Lib.hid h4
   clear hcell hmade h4 hpar2 hg2 hc hb2 hgz hfr
   go_wp2_with fail
   exact ⟨⟨m + 1,_,by omega,by simp,by simpa using hA',hH4.out,hall.out,hb4⟩,by simp [intOf];omega⟩
  ·obtain rfl:m = ns.length:=by omega
   have hH:=Lib.hid hk
   have hP:=Lib.hid hpar'
   clear hk hpar' hns hnum
   go_wp2_with fail
   go_ret
   exact ⟨w.heap.size,rfl,fun i hi => by rw [Nat.zero_add];exact hH.out i hi hi,Nat.le_refl _,Wb,⟨(Array.getElem?_eq_some_iff.1 hP.out).1,fun o => arr_frozen hP.out o⟩⟩
end Go.Proofs.YtbiacfkiakddiaaGreat

namespace Go.Proofs.YtbiacfkiakddiaaGreat
open Go.RowKit Go.Fl
/-- Points of one's own. -/
def VcOwn (n G:Nat) (P:Nat → Nat × Nat × Nat) (w:World):Prop:=(∃ A:Array Value,A.size = n * 3 ∧ w.heap[G]? = some (.cells A 38 (0,0))) ∧ PtsIn n G 0 P w
theorem VcOwn.keep {n G:Nat} {P:Nat → Nat × Nat × Nat} {w w':World} (h:VcOwn n G P w) (hb:Below w.heap.size w w'):VcOwn n G P w':=by
 obtain ⟨⟨A,h1,h2⟩,h3⟩:=h
 exact ⟨⟨A,h1,by rw [hb.block G (Array.getElem?_eq_some_iff.1 h2).1];exact h2⟩,h3.keep hb⟩

end Go.Proofs.YtbiacfkiakddiaaGreat

namespace Go.Proofs.YtbiacfkiakddiaaGreat
open Go.RowKit Go.Fl
theorem NumFree.far {G o:Nat} {w:World} (h:NumFree G o w) (p:Addr) (hp:p.block < G) (v:Value):NumFree G o (w.setCell p v):=by
 obtain ⟨g,n,m,h0,h1,h2,h3⟩:=h
 exact ⟨g,n,m,h0,by rw [World.cell?_setCell_far _ _ _ _ (by show p.block ≠ G;omega)];exact h1,by simpa [World.setCell] using h2,fun j => by rw [World.frozen?_setCell];exact h3 j⟩

/-- A shape made anew,which can be written. -/
def RetShW (ns:List PN) (w:World) (e:Ending) (w':World):Prop :=
 ∃ G,e = .returned (.agg #[.slice (some ⟨G,0,none⟩) ns.length ns.length]) ∧ (∀ i (h:i < ns.length),NodeNew ns[i] G (0 + i * 4) w' ∧ NumFree G (0 + i * 4) w') ∧ w.heap.size ≤ G ∧ Below w.heap.size w w' ∧ G < w'.heap.size ∧ ∀ o,w'.frozen? ⟨G,o,none⟩ = false

set_option maxRecDepth 100000 in
set_option maxHeartbeats 2000000 in
theorem to_shapeW (ns:List PN) (hlen:(ns.length:Int) ≤ 1048576) (hnum:∀ n ∈ ns,(n.nums.length:Int) ≤ 1048576) (bp:Option Addr) (nb no cap:Nat) (w:World) (hns:NodesIn ns bp nb no w) :
  Calls Tryz.prog 15 #[.agg #[.slice bp ns.length cap]] w (RetShW ns w):=by
 have hc:=fun w' (h:Below w.heap.size w w') => to_nodesW ns hlen hnum bp nb no cap w' (hns.keep h)
 clear hns hnum
 go_enter Tryz.func15,Tryz.ntmps15
 go_wp2_with fail
 have Wb:Below w.heap.size w (((w.alloc (.cells #[.slice bp ns.length cap] 24)).alloc (.cells #[.slice none 0 0] 36)).alloc (.cells #[.slice none 0 0] 36)):=(by repeat' (first | exact Below.refl _ _ | exact Nat.le_refl _ | refine below_drewN ?_ _ | refine Below.alloc ?_ (by simp <;> omega) _ | refine Below.setCell ?_ (by simp <;> omega) _ | refine below_step ?_ (by assumption)))

 have hkept:Kept [(⟨w.heap.size + 1,0,none⟩,.slice none 0 0),(⟨w.heap.size + 1 + 1,0,none⟩,.slice none 0 0)] [⟨w.heap.size + 1,0,none⟩,⟨w.heap.size + 1 + 1,0,none⟩] (((w.alloc (.cells #[.slice bp ns.length cap] 24)).alloc (.cells #[.slice none 0 0] 36)).alloc (.cells #[.slice none 0 0] 36)):=by
  simp only [Kept,ka,kb,kc,kd,ke,kf,kg];(first | (go_simp;done) | (simp [World.cell?,World.frozen?,World.alloc,Array.getElem?_push];done))
 have hWs:(((w.alloc (.cells #[.slice bp ns.length cap] 24)).alloc (.cells #[.slice none 0 0] 36)).alloc (.cells #[.slice none 0 0] 36)).heap.size = w.heap.size + 1 + 1 + 1:=by simp
 generalize ((w.alloc (.cells #[.slice bp ns.length cap] 24)).alloc (.cells #[.slice none 0 0] 36)).alloc (.cells #[.slice none 0 0] 36) = W at *
 refine (hc _ Wb).mono ?_
 rintro _ w2 ⟨G,rfl,hnew,hG,hb2,hgz,hfr⟩
 have hF:=Lib.hid hfr
 have hZ:=Lib.hid hgz
 clear hfr hgz
 have W2b:=below_step Wb hb2
 have hkept2:=keep hkept hb2
 have hK:=hkept2
 simp only [Kept,ka,kb,kc,kd,ke,kf,kg] at hK
 have hGs:w.heap.size + 1 + 1 < G:=by omega
 have hH:=Lib.hid hnew
 clear hc hkept hb2 Wb hnew hkept2 hG hWs
 obtain ⟨hK1,hK2⟩:=hK
 go_wp2_with fail
 refine bodyPost_ret (v:=.agg #[.slice (some ⟨G,0,none⟩) ns.length ns.length]) (by simp [results,Tryz.results15,go_sem,hK1,hK2]) rfl ⟨G,rfl,fun i hi => ⟨?_,?_⟩,by omega,?_,?_,fun o => ?_⟩
 ·exact ((hH.out i hi).1.far _ (by show w.heap.size + 1 + 1 < G;omega) _).far _ (by show w.heap.size + 1 < G;omega) _
 ·exact ((hH.out i hi).2.far _ (by show w.heap.size + 1 + 1 < G;omega) _).far _ (by show w.heap.size + 1 < G;omega) _
 ·exact (W2b.setCell (by show w.heap.size ≤ w.heap.size + 1 + 1;omega) _).setCell (by exact Nat.le_succ _) _
 ·simpa [World.setCell] using hZ.out
 ·simp only [World.frozen?_setCell]
  exact hF.out o

/-- Numbers are marked. -/
def Cells (g n:Nat) (w:World):Prop:=∀ i,i < n → ∃ v,w.cell? ⟨g,i,none⟩ = some v
theorem Cells.set {g n:Nat} {w:World} (h:Cells g n w) (p:Addr) (v:Value):Cells g n (w.setCell p v):=fun i hi => by
 obtain ⟨u,hu⟩:=h i hi
 by_cases hp:p = ⟨g,i,none⟩
 ·subst hp
  exact ⟨v,World.cell?_setCell_same w _ v hu⟩
 ·exact ⟨u,(World.cell?_setCell_other (w:=w) (a:=p) (b:=⟨g,i,none⟩) (v:=v) hp).trans hu⟩

theorem some_set {w:World} {a p:Addr} {v:Value} (h:∃ u,w.cell? a = some u):∃ u,(w.setCell p v).cell? a = some u:=by
 obtain ⟨u,hu⟩:=h
 by_cases hp:p = a
 ·subst hp
  exact ⟨v,World.cell?_setCell_same w _ v hu⟩
 ·exact ⟨u,(World.cell?_setCell_other (w:=w) (a:=p) (b:=a) (v:=v) hp).trans hu⟩

set_option maxRecDepth 100000 in
set_option maxHeartbeats 2000000 in
theorem mark_floats (n g:Nat) (k:Int) (w:World) (hn:n ≤ 1048576) (hk:0 ≤ k ∧ k ≤ 1000000000000000) (hc:Cells g n w) (hf:∀ o,w.frozen? ⟨g,o,none⟩ = false) :
  Calls Tryz.prog 140 #[.slice (some ⟨g,0,none⟩) n n,.int .i64 k] w (fun e w' => e = .returned (.int .i64 (k + (n:Int))) ∧ Mid g (g + 1) w w' ∧ (∀ b i,(∃ v,w.cell? ⟨b,i,none⟩ = some v) → ∃ v,w'.cell? ⟨b,i,none⟩ = some v) ∧ ∀ b o,w'.frozen? ⟨b,o,none⟩ = w.frozen? ⟨b,o,none⟩):=by
 obtain ⟨k0,k1⟩:=hk
 have hnI:(n:Int) ≤ 9223372036854775807:=by omega
 go_enter Tryz.func140,Tryz.ntmps140
 go_wp2_with fail
 go_loopw [1,5] (fun q i wr => ∃ (m:Nat),m ≤ n ∧ i = .int .i64 (m:Int) ∧ q = .int .i64 (k + (m:Int)) ∧ Mid g (g + 1) w wr ∧ (∀ b i,(∃ v,w.cell? ⟨b,i,none⟩ = some v) → ∃ v,wr.cell? ⟨b,i,none⟩ = some v) ∧ ∀ b o,wr.frozen? ⟨b,o,none⟩ = w.frozen? ⟨b,o,none⟩) (fun _ i _ => n - (intOf i).toNat)
 case atStart => exact ⟨0,by omega,rfl,by simp,Mid.refl ..,fun _ _ h => h,fun _ _ => rfl⟩
 case round =>
  obtain ⟨m,hm,rfl,rfl,hmid,hcr,hfr⟩:=hrel
  by_cases hlt:m < n
  ·have hlt':(m:Int) < (n:Int):=by omega
   have h0:(0:Int) ≤ (m:Int):=by omega
   obtain ⟨v0,q0⟩:=hcr _ _ (hc m hlt)
   have hz:wr.frozen? ⟨g,m,none⟩ = false:=by rw [hfr];exact hf m
   have hC:=Lib.hid hcr
   have hM:=Lib.hid hmid
   have hR:=Lib.hid hfr
   clear hcr hmid hfr hc hf
   go_wp2_with fail
   have hE:k + (m:Int) + 1 = k + ((m + 1:Nat):Int):=by omega
   exact ⟨⟨m + 1,by omega,by simp,by rw [hE],hM.out.set (p:=⟨g,_,none⟩) ⟨Nat.le_refl _,Nat.lt_succ_self _⟩ _,fun b i h => some_set (hC.out b i h),fun b o => by rw [World.frozen?_setCell];exact hR.out b o⟩,by simp [intOf];omega⟩
  ·obtain rfl:m = n:=by omega
   have hC:=Lib.hid hcr
   have hM:=Lib.hid hmid
   have hR:=Lib.hid hfr
   clear hcr hmid hfr hc hf
   go_wp2_with fail
   go_ret
   exact ⟨rfl,hM.out,hC.out,hR.out⟩
end Go.Proofs.YtbiacfkiakddiaaGreat

namespace Go.Proofs.YtbiacfkiakddiaaGreat
open Go.RowKit Go.Fl
/-- A node that can be marked. -/
def NodeM (G o hi:Nat) (w:World):Prop:=(∃ v,w.cell? ⟨G,o,none⟩ = some v) ∧ (∃ v,w.cell? ⟨G,o + 1,none⟩ = some v) ∧ (∃ v,w.cell? ⟨G,o + 2,none⟩ = some v) ∧ ∃ g n,G < g ∧ g < hi ∧ n ≤ 1048576 ∧ w.cell? ⟨G,o + 3,none⟩ = some (.slice (some ⟨g,0,none⟩) n n) ∧ Cells g n w ∧ ∀ j,w.frozen? ⟨g,j,none⟩ = false
theorem NodeM.set {G o hi:Nat} {w:World} (h:NodeM G o hi w) (j:Nat) (hj:j ≠ o + 3) (v:Value):NodeM G o hi (w.setCell ⟨G,j,none⟩ v):=by
 obtain ⟨h1,h2,h3,g,n,h4,h5,h6,h7,h8,h9⟩:=h
 exact ⟨some_set h1,some_set h2,some_set h3,g,n,h4,h5,h6,(World.cell?_setCell_other (w:=w) (a:=⟨G,j,none⟩) (b:=⟨G,o + 3,none⟩) (v:=v) (by intro e;injection e with _ e;omega)).trans h7,h8.set _ _,fun i => by rw [World.frozen?_setCell];exact h9 i⟩
theorem NodeM.mid {G o hi g:Nat} {w w':World} (h:NodeM G o hi w) (hm:Mid g (g + 1) w w') (hg:G < g) (hc:∀ b i,(∃ v,w.cell? ⟨b,i,none⟩ = some v) → ∃ v,w'.cell? ⟨b,i,none⟩ = some v) (hf:∀ b i,w'.frozen? ⟨b,i,none⟩ = w.frozen? ⟨b,i,none⟩):NodeM G o hi w':=by
 obtain ⟨h1,h2,h3,q,n,h4,h5,h6,h7,h8,h9⟩:=h
 exact ⟨hc _ _ h1,hc _ _ h2,hc _ _ h3,q,n,h4,h5,h6,by
  have:w'.heap[G]? = w.heap[G]?:=hm.low.block G hg
  simp only [World.cell?] at h7 ⊢
  rw [this];exact h7,fun i hi => hc _ _ (h8 i hi),fun i => by rw [hf];exact h9 i⟩
end Go.Proofs.YtbiacfkiakddiaaGreat

namespace Go.Proofs.YtbiacfkiakddiaaGreat
open Go.RowKit Go.Fl
theorem Mid.widen {lo hi lo' hi':Nat} {w w':World} (h:Mid lo hi w w') (h1:lo' ≤ lo) (h2:hi ≤ hi'):Mid lo' hi' w w':=⟨h.low.mono h1,h.size,fun b hb => h.high b (Nat.le_trans h2 hb)⟩

set_option maxRecDepth 100000 in
set_option maxHeartbeats 4000000 in
theorem mark_nodesB (m:Nat) (hm:m ≤ 1048576) (G hi:Nat) (k:Int) (hk:0 ≤ k ∧ k ≤ 10) (w:World) (h:∀ i,i < m → NodeM G (i * 4) hi w) (hf:∀ o,w.frozen? ⟨G,o,none⟩ = false) :
  Calls Tryz.prog 70 #[.slice (some ⟨G,0,none⟩) m m,.int .i64 k] w (fun e w' => ∃ k',e = .returned (.int .i64 k') ∧ 0 ≤ k' ∧ Mid G hi w w' ∧ k' ≤ 2000000000000):=by
 obtain ⟨k0,k1⟩:=hk
 have hnI:(m:Int) ≤ 9223372036854775807:=by omega
 go_enter Tryz.func70,Tryz.ntmps70
 go_wp2_with fail
 go_loopw [1,5] (fun q i wr => ∃ (j:Nat) (z:Int),j ≤ m ∧ i = .int .i64 (j:Int) ∧ q = .int .i64 z ∧ 0 ≤ z ∧ z ≤ 10 + (j:Int) * 1048579 ∧ Mid G hi w wr ∧ (∀ i,i < m → NodeM G (i * 4) hi wr) ∧ ∀ o,wr.frozen? ⟨G,o,none⟩ = false) (fun _ i _ => m - (intOf i).toNat)
 case atStart => exact ⟨0,k,by omega,rfl,rfl,k0,by omega,Mid.refl ..,h,hf⟩
 case round =>
  obtain ⟨j,z,hj,rfl,rfl,z0,z1,hmid,hn,hfz⟩:=hrel
  clear h hf
  by_cases hlt:j < m
  ·have hlt':(j:Int) < (m:Int):=by omega
   have h0:(0:Int) ≤ (j:Int):=by omega
   obtain ⟨⟨a0,c0⟩,⟨a1,c1⟩,⟨a2,c2⟩,g,n,h4,h5,h6,h7,h8,h9⟩:=hn j hlt
   have hN:=Lib.hid hn
   have hM:=Lib.hid hmid
   have hF:=Lib.hid hfz
   clear hn hmid h8 h9 h7
   go_upto_region 10 with fail
   have hN3:∀ i,i < m → NodeM G (i * 4) hi (((wr.setCell ⟨G,j * 4,none⟩ (.int .i64 z)).setCell ⟨G,j * 4 + 1,none⟩ (.int .i64 (z + 1))).setCell ⟨G,j * 4 + 2,none⟩ (.int .i64 (z + 1 + 1))):=fun i hi => (((hN.out i hi).set (j * 4) (by omega) _).set (j * 4 + 1) (by omega) _).set (j * 4 + 2) (by omega) _
   have hM3:Mid G hi w (((wr.setCell ⟨G,j * 4,none⟩ (.int .i64 z)).setCell ⟨G,j * 4 + 1,none⟩ (.int .i64 (z + 1))).setCell ⟨G,j * 4 + 2,none⟩ (.int .i64 (z + 1 + 1))):=((hM.out.set (p:=⟨G,j * 4,none⟩) ⟨Nat.le_refl _,by show G < hi;omega⟩ _).set (p:=⟨G,j * 4 + 1,none⟩) ⟨Nat.le_refl _,by show G < hi;omega⟩ _).set (p:=⟨G,j * 4 + 2,none⟩) ⟨Nat.le_refl _,by show G < hi;omega⟩ _
   have hF3:∀ o,(((wr.setCell ⟨G,j * 4,none⟩ (.int .i64 z)).setCell ⟨G,j * 4 + 1,none⟩ (.int .i64 (z + 1))).setCell ⟨G,j * 4 + 2,none⟩ (.int .i64 (z + 1 + 1))).frozen? ⟨G,o,none⟩ = false:=fun o => by simp only [World.frozen?_setCell];exact hF.out o
   clear hN hM hF hfz c0 c1 c2 h4 h5 h6
   generalize ((wr.setCell ⟨G,j * 4,none⟩ (.int .i64 z)).setCell ⟨G,j * 4 + 1,none⟩ (.int .i64 (z + 1))).setCell ⟨G,j * 4 + 2,none⟩ (.int .i64 (z + 1 + 1)) = w3 at *
   obtain ⟨_,_,_,g,n,h4,h5,h6,h7,h8,h9⟩:=hN3 j hlt
   have hmf:=mark_floats n g (z + 1 + 1 + 1) w3 h6 ⟨by omega,by omega⟩ h8 h9
   have hN:=Lib.hid hN3
   have hM:=Lib.hid hM3
   have hF:=Lib.hid hF3
   clear hN3 hM3 hF3 h8 h9
   go_wp2_with (go_at_call 140;refine hmf.mono ?_;rintro _ w4 ⟨rfl,hm4,hc4,hf4⟩;replace hm4:=Lib.hid hm4;replace hc4:=Lib.hid hc4;replace hf4:=Lib.hid hf4)
   exact ⟨⟨j + 1,z + 1 + 1 + 1 + (n:Int),by omega,by simp,rfl,by omega,by omega,hM.out.trans (hm4.out.widen (by omega) (by omega)),fun i hi => (hN.out i hi).mid hm4.out h4 hc4.out hf4.out,fun o => by rw [hf4.out];exact hF.out o⟩,by simp [intOf];omega⟩
  ·obtain rfl:j = m:=by omega
   have hM:=Lib.hid hmid
   clear hn hmid hfz
   go_wp2_with fail
   go_ret
   exact ⟨z,rfl,z0,hM.out,by omega⟩
end Go.Proofs.YtbiacfkiakddiaaGreat

namespace Go.Proofs.YtbiacfkiakddiaaGreat
open Go.RowKit Go.Fl
/-- Three ranges come back. -/
def RetPl (r:(Nat × Nat) × (Nat × Nat) × (Nat × Nat)) (w:World) (e:Ending) (w':World):Prop:=∃ a0 a1 b0 b1 c0 c1,e = .returned (Rg3 a0 a1 b0 b1 c0 c1) ∧ (cn .f32 a0,cn .f32 a1) = r.1 ∧ (cn .f32 b0,cn .f32 b1) = r.2.1 ∧ (cn .f32 c0,cn .f32 c1) = r.2.2 ∧ Below w.heap.size w w'


set_option maxRecDepth 100000 in
set_option maxHeartbeats 2000000 in
theorem place_move {b o bv ov cap r0 r1 r2 x0 x1 y0 y1 z0 z1:Nat} {w:World} (hN:Kept [(⟨b,o,none⟩,.int .i64 9),(⟨b,o + 2,none⟩,.int .i64 0),(⟨b,o + 3,none⟩,.slice (some ⟨bv,ov,none⟩) 3 cap),(⟨bv,ov,none⟩,F1 r0),(⟨bv,ov + 1,none⟩,F1 r1),(⟨bv,ov + 2,none⟩,F1 r2)] [] w) :
  Calls Tryz.prog 134 #[.pointer (some ⟨b,o,none⟩),Rg3 x0 x1 y0 y1 z0 z1] w (RetPl (downR (cn .f32 x0,cn .f32 x1) (cn .f32 r0),downR (cn .f32 y0,cn .f32 y1) (cn .f32 r1),downR (cn .f32 z0,cn .f32 z1) (cn .f32 r2)) w):=by
 have hK:=hN
 simp only [Kept,ka,kb,kc,kd,ke,kf,kg] at hK
 have hb:b < w.heap.size:=some_lt (a:=⟨b,o,none⟩) (by rw [hK.1];rfl)
 go_enter Tryz.func134,Tryz.ntmps134
 go_upto_region 1 with fail
 clear hK
 generalize hW:(w.alloc (.cells #[F1 x0,F1 x1,F1 y0,F1 y1,F1 z0,F1 z1] 197)).alloc (.cells #[F1 0,F1 0,F1 0,F1 0,F1 0,F1 0] 197) = W1 at *
 have W1b:Below w.heap.size w W1:=by subst hW;exact (by repeat' (first | exact Below.refl _ _ | exact Nat.le_refl _ | refine below_drewN ?_ _ | refine Below.alloc ?_ (by simp <;> omega) _ | refine Below.setCell ?_ (by simp <;> omega) _ | refine below_step ?_ (by assumption)))
 have hkept:Kept [(⟨w.heap.size,0,none⟩,F1 x0),(⟨w.heap.size,1,none⟩,F1 x1),(⟨w.heap.size,2,none⟩,F1 y0),(⟨w.heap.size,3,none⟩,F1 y1),(⟨w.heap.size,4,none⟩,F1 z0),(⟨w.heap.size,5,none⟩,F1 z1),(⟨w.heap.size + 1,0,none⟩,F1 0),(⟨w.heap.size + 1,1,none⟩,F1 0),(⟨w.heap.size + 1,2,none⟩,F1 0),(⟨w.heap.size + 1,3,none⟩,F1 0),(⟨w.heap.size + 1,4,none⟩,F1 0),(⟨w.heap.size + 1,5,none⟩,F1 0)] [⟨w.heap.size + 1,0,none⟩,⟨w.heap.size + 1,1,none⟩,⟨w.heap.size + 1,2,none⟩,⟨w.heap.size + 1,3,none⟩,⟨w.heap.size + 1,4,none⟩,⟨w.heap.size + 1,5,none⟩] W1:=by
  subst hW;simp only [Kept,ka,kb,kc,kd,ke,kf,kg];(first | (go_simp;done) | (simp [World.cell?,World.frozen?,World.alloc,Array.getElem?_push];done))
 clear hW
 have hkept:=kept_app (keep hN W1b) hkept
 clear hN
 have hK:=hkept;simp only [Kept,ka,kb,kc,kd,ke,kf,kg] at hK
 have hb1:b < W1.heap.size:=Nat.lt_of_lt_of_le hb W1b.size
 go_upto_region 2 with fail
 refine Qr.wp_below_all (by kernel_rfl) (by kernel_rfl) PhiTb ?_
 repeat (first | (refine Qr.walk_plain rfl fun K hK => ?_;refine one_bin _ _ _ _ _ rfl _ _ _ rfl rfl rfl (fun r hr => ?_);go_simp;refine hK _ ?_;clear hK K) | (refine Qr.walk_plain rfl fun K hK => ?_;apply Qr.one_det;(focus (intro w' hw';have HK:=keep hkept hw';simp only [Kept,ka,kb,kc,kd,ke,kf,kg] at HK;go_simp;first | done | rfl));go_simp;refine hK _ ?_;clear hK K))
 refine Qr.walk_nil fun w6 hw6 => ?_
 have hkept:=keep hkept hw6
 have W6b:=below_step W1b hw6
 clear hK
 have hK:=hkept
 simp only [Kept,ka,kb,kc,kd,ke,kf,kg] at hK
 go_upto_region 5 with fail
 refine Qr.wp_below 19 (by kernel_rfl) (by kernel_rfl) PhiTb ?_
 repeat (first | (refine Qr.walk_plain rfl fun K hK => ?_;refine one_bin _ _ _ _ _ rfl _ _ _ rfl rfl rfl (fun r hr => ?_);go_simp;refine hK _ ?_;clear hK K) | (refine Qr.walk_plain rfl fun K hK => ?_;apply Qr.one_det;(focus (intro w' hw';have HK:=keep hkept hw';simp only [Kept,ka,kb,kc,kd,ke,kf,kg] at HK;go_simp;first | done | rfl));go_simp;refine hK _ ?_;clear hK K) | (refine Qr.walk_plain rfl fun K hK => ?_;apply Qr.one_call;(focus (intro w' hw';go_simp;first | done | exact ⟨rfl,rfl⟩));(focus (intro w' hw'; go_at_call 208;refine (down_any _ _ _ _).mono ?_;rintro _ w2 ⟨l1,u1,rfl,hr1,hb1⟩ ;exact ⟨_,rfl,by constructor <;> assumption,below_step hw' (by assumption),by assumption⟩));intro v hv;cases hv;go_simp;refine hK _ ?_;clear hK K))
 rename_i a0 a1 e1 b0 b1 e2 c0 c1 e3
 refine Qr.walk_nil fun w8 hw8 => ?_
 have hkept:=keep hkept hw8
 have W8b:=below_step W6b hw8
 clear hK
 have hK:=hkept
 simp only [Kept,ka,kb,kc,kd,ke,kf,kg] at hK
 go_wp2_with fail
 exact bodyPost_ret (v:=Rg3 a0 a1 b0 b1 c0 c1) (by simp [results,Tryz.results134,go_sem,hK,World.cell?_setCell_other,World.cell?_setCell_same'];first | done | exact ⟨rfl,rfl,rfl,rfl,rfl,rfl⟩) rfl ⟨_,_,_,_,_,_,rfl,e1,e2,e3,bel6 W8b (by omega) ..⟩
end Go.Proofs.YtbiacfkiakddiaaGreat
