/-
 Lemmas: L2,L3,C3,L5,Lg,S16a,U1,U2,V21.
-/
import Derived.Test.YtbiacfkiakddiaaGreatXba
import Derived.Test.YtbiacfkiakddiaaGreatXbc
set_option linter.unusedVariables false
set_option linter.unusedSimpArgs false
set_option maxHeartbeats 4000000
namespace Go.Proofs.YtbiacfkiakddiaaGreat
open Go.RowKit Go.Fl
theorem kqb (x:Nat):zxe x:=u8 x
theorem k6 {w:World} {g:Nat} {A:Array Value} {T:TypeId} (h:w.heap[g]? = some (.cells A T (0,0))) (k:Nat) (v:Value):(w.setCell ⟨g,k,none⟩ v).heap[g]? = some (.cells (A.setIfInBounds k v) T (0,0)):=by
 simp only[World.setCell,Array.getElem?_modify,if_true,h,Option.map_some]
 rfl
theorem zcp {w:World} {g:Nat} {A:Array Value} {T:TypeId} (h:w.heap[g]? = some (.cells A T (0,0))) (k:Nat):w.cell? ⟨g,k,none⟩=A[k]?:=by
 simp[World.cell?,h]
theorem zgx {w:World} {g:Nat} {A:Array Value} {T:TypeId} (h:w.heap[g]? = some (.cells A T (0,0))) (k:Nat):w.frozen? ⟨g,k,none⟩=false:=by
 simp[World.frozen?,h]

theorem zmd (n:Nat) (hn:(n:Int)≤1048576) (w:World):∃ A:Array Value,A.size=n∧(Instr.makeSlice 140 (.int .i64 (n:Int)) (.int .i64 (n:Int))).run Tryz.prog w=.ok (.slice (some ⟨w.heap.size,0,none⟩) n n) (w.alloc (.cells A 25)):=by
 obtain⟨i0,hi,hz0,hz1,hz2⟩:=info_parts zdt
 have h:=run_make (P:=Tryz.prog) w 140 25 i0 (F1 0) Tryz.underlying140 hi hz0 .i64 .i64 n n (by omega) (by omega) (by rw[hz2];omega) (by omega)
 rw[hz1]at h
 refine⟨_,?_,h⟩
 simp[madeCells]

set_option maxRecDepth 100000 in
theorem zrm (xs:List Nat) (hlen:(xs.length:Int)≤1048576) (bp:Option Addr) (bv ov cap:Nat) (w:World) (h1:xs ≠ []→bp=some ⟨bv,ov,none⟩) (h2:∀ i (h:i<xs.length),w.cell? ⟨bv,ov+i,none⟩=some (F1 xs[i])) :
  Calls Tryz.prog 203 #[.slice bp xs.length cap] w (fun e w'=>∃ g,e=.returned (.slice (some ⟨g,0,none⟩) xs.length xs.length)∧(∀ i (h:i<xs.length),w'.cell? ⟨g,0+i,none⟩=some (F1 xs[i]))∧w.heap.size≤g∧Below w.heap.size w w'):=by
 obtain⟨A,hA,hmk⟩:=zmd xs.length hlen w
 go_enter Tryz.func203,Tryz.ntmps203
 go_wp2_with fail
 have W1b:Below w.heap.size w (w.alloc (.cells A 25)):=(by repeat' (first|exact zi _ _|refine zd ?_ _|refine Below.alloc ?_ (by simp<;>omega) _|refine zj ?_ (by simp<;>omega) _|refine za ?_ ‹_›))

 have hpar:=ub w (.cells A 25)
 generalize w.alloc (.cells A 25)=W1 at *
 clear hmk
 go_loopw [4] (fun i wr=>∃ (m:Nat) (A:Array Value),m≤xs.length∧i=.int .i64 (m:Int)∧A.size=xs.length∧wr.heap[w.heap.size]? = some (.cells A 25 (0,0))∧(∀ k (h:k<xs.length),k<m→A[k]? = some (F1 xs[k]))∧Below w.heap.size w wr) (fun i _=>xs.length-(intOf i).toNat)
 case atStart=>exact⟨0,A,by omega,rfl,hA,hpar,fun k _ h=>by omega,W1b⟩
 case round =>
  obtain⟨m,A',hm,rfl,hA',hpar',hk,Wb⟩:=hrel
  clear hpar W1b
  by_cases hlt:m<xs.length
  ·have hlt':(m:Int)<(xs.length:Int):=by omega
   have h0:(0:Int)≤(m:Int):=by omega
   have hne:xs ≠ []:=by intro h;rw[h]at hlt;simp at hlt
   have hbp:=h1 hne
   subst hbp
   have hc:wr.cell? ⟨bv,ov+m,none⟩=some (F1 xs[m]):=by rw[yc Wb _ (by rw[h2 m hlt];rfl)];exact h2 m hlt
   have hold:wr.cell? ⟨w.heap.size,m,none⟩=some (A'[m]'(by omega)):=by rw[zcp hpar',Array.getElem?_eq_getElem (by omega)]
   have hfz:=zgx hpar'
   have hset:=k6 hpar' m (F1 xs[m])
   have hb3:=Wb.setCell (p:=⟨w.heap.size,m,none⟩) (Nat.le_refl _) (Value.float .f32 xs[m])
   have hnew:Hid (∀ k (h:k<xs.length),k<m+1→(A'.setIfInBounds m (F1 xs[m]))[k]? = some (F1 xs[k])):=fun k h hkm=>by
    by_cases hkm':k=m
    ·subst hkm'
     rw[Array.getElem?_setIfInBounds_self_of_lt (by omega)]
    ·rw[Array.getElem?_setIfInBounds_ne (by omega)]
     exact hk k h (by omega)
   have hH:=Lib.hid hset
   clear hk hset hpar' h2 h1
   generalize xs[m]=xv at hc hb3 hH hnew
   go_wp2_with fail
   exact⟨⟨m+1,_,by omega,by simp,by simpa using hA',hH.out,hnew.out,hb3⟩,by simp[intOf];omega⟩
  ·obtain rfl:m=xs.length:=by omega
   have hH:=Lib.hid hk
   have hP:=Lib.hid hpar'
   clear hk hpar' h1 h2
   go_wp2_with fail
   go_ret
   exact⟨w.heap.size,rfl,fun i hi=>by rw[Nat.zero_add,zcp hP.out];exact hH.out i hi hi,Nat.le_refl _,Wb⟩
def zy2 (n:PN) (w:World) (e:Ending) (w':World):Prop :=
 ∃ g,e=.returned (.agg #[.int .i64 n.kind,.int .i64 n.a,.int .i64 n.b,.slice (some ⟨g,0,none⟩) n.nums.length n.nums.length])∧(∀ i (h:i<n.nums.length),w'.cell? ⟨g,0+i,none⟩=some (F1 n.nums[i]))∧w.heap.size≤g∧Below w.heap.size w w'

set_option maxRecDepth 100000 in
theorem zwc (n:PN) (hlen:(n.nums.length:Int)≤1048576) (bp:Option Addr) (bv ov cap:Nat) (w:World) (h1:n.nums ≠ []→bp=some ⟨bv,ov,none⟩) (h2:∀ i (h:i<n.nums.length),w.cell? ⟨bv,ov+i,none⟩=some (F1 n.nums[i])) :
  Calls Tryz.prog 127 #[.agg #[.int .i64 n.kind,.int .i64 n.a,.int .i64 n.b,.slice bp n.nums.length cap]] w (zy2 n w):=by
 have hc:∀ w',Below w.heap.size w w'→Calls Tryz.prog 203 #[.slice bp n.nums.length cap] w' (fun e w''=>∃ g,e=.returned (.slice (some ⟨g,0,none⟩) n.nums.length n.nums.length)∧(∀ i (h:i<n.nums.length),w''.cell? ⟨g,0+i,none⟩=some (F1 n.nums[i]))∧w'.heap.size≤g∧Below w'.heap.size w' w'') :=
  fun w' hb=>zrm n.nums hlen bp bv ov cap w' h1 (fun i h=>by rw[yc hb _ (by rw[h2 i h];rfl)];exact h2 i h)
 clear h1 h2
 go_enter Tryz.func127,Tryz.ntmps127
 go_wp2_with fail
 have Wb:Below w.heap.size w (((w.alloc (.cells #[.int .i64 n.kind,.int .i64 n.a,.int .i64 n.b,.slice bp n.nums.length cap] 175)).alloc (.cells #[.int .i64 0,.int .i64 0,.int .i64 0,.slice none 0 0] 142)).alloc (.cells #[.int .i64 n.kind,.int .i64 n.a,.int .i64 n.b,.slice none 0 0] 142)):=(by repeat' (first|exact zi _ _|refine zd ?_ _|refine Below.alloc ?_ (by simp<;>omega) _|refine zj ?_ (by simp<;>omega) _|refine za ?_ ‹_›))

 have hkept:zc [(⟨w.heap.size+1,0,none⟩,.int .i64 0),(⟨w.heap.size+1,1,none⟩,.int .i64 0),(⟨w.heap.size+1,2,none⟩,.int .i64 0),(⟨w.heap.size+1,3,none⟩,.slice none 0 0),(⟨w.heap.size+1+1,0,none⟩,.int .i64 n.kind),(⟨w.heap.size+1+1,1,none⟩,.int .i64 n.a),(⟨w.heap.size+1+1,2,none⟩,.int .i64 n.b),(⟨w.heap.size+1+1,3,none⟩,.slice none 0 0)] [⟨w.heap.size+1,0,none⟩,⟨w.heap.size+1,1,none⟩,⟨w.heap.size+1,2,none⟩,⟨w.heap.size+1,3,none⟩,⟨w.heap.size+1+1,3,none⟩] (((w.alloc (.cells #[.int .i64 n.kind,.int .i64 n.a,.int .i64 n.b,.slice bp n.nums.length cap] 175)).alloc (.cells #[.int .i64 0,.int .i64 0,.int .i64 0,.slice none 0 0] 142)).alloc (.cells #[.int .i64 n.kind,.int .i64 n.a,.int .i64 n.b,.slice none 0 0] 142)):=by
  simp only[zc,ka,kb,zb,kfa,kga];(first|(go_simp;done)|(simp[World.cell?,World.frozen?,World.alloc,Array.getElem?_push];done))
 have hWs:(((w.alloc (.cells #[.int .i64 n.kind,.int .i64 n.a,.int .i64 n.b,.slice bp n.nums.length cap] 175)).alloc (.cells #[.int .i64 0,.int .i64 0,.int .i64 0,.slice none 0 0] 142)).alloc (.cells #[.int .i64 n.kind,.int .i64 n.a,.int .i64 n.b,.slice none 0 0] 142)).heap.size=w.heap.size+1+1+1:=by simp
 generalize (((w.alloc (.cells #[.int .i64 n.kind,.int .i64 n.a,.int .i64 n.b,.slice bp n.nums.length cap] 175)).alloc (.cells #[.int .i64 0,.int .i64 0,.int .i64 0,.slice none 0 0] 142)).alloc (.cells #[.int .i64 n.kind,.int .i64 n.a,.int .i64 n.b,.slice none 0 0] 142))=W at *
 refine (hc _ Wb).mono ?_
 rintro _ w2⟨g,rfl,hnum,hg,hb2⟩
 have W2b:=za Wb hb2
 have hkept2:=keep hkept hb2
 have hK:=hkept2
 simp only[zc,ka,kb,zb,kfa,kga]at hK
 have hgs:w.heap.size+1+1<g:=by omega
 have hH:=Lib.hid hnum
 clear hc hkept hb2 Wb hnum hkept2 hg hWs
 obtain⟨hK1,hK2⟩:=hK
 go_wp2_with fail
 obtain⟨hK1a,hK1b⟩:=hK1
 refine bodyPost_ret (v:=.agg #[.int .i64 n.kind,.int .i64 n.a,.int .i64 n.b,.slice (some ⟨g,0,none⟩) n.nums.length n.nums.length]) (by simp[results,Tryz.results127,go_sem,hK1a,hK1b,hK2]) rfl ⟨g,rfl,fun i hi=>?_,by omega,?_⟩
 ·rw[World.cell?_setCell_far _ _ _ _ (by show w.heap.size+1 ≠ g;omega),World.cell?_setCell_far _ _ _ _ (by show w.heap.size+1 ≠ g;omega),World.cell?_setCell_far _ _ _ _ (by show w.heap.size+1 ≠ g;omega),World.cell?_setCell_far _ _ _ _ (by show w.heap.size+1 ≠ g;omega),World.cell?_setCell_far _ _ _ _ (by show w.heap.size+1+1 ≠ g;omega)]
  exact hH.out i hi
 ·exact ((((W2b.setCell (by show w.heap.size≤w.heap.size+1+1;omega) _).setCell (by exact Nat.le_succ _) _).setCell (by exact Nat.le_succ _) _).setCell (by exact Nat.le_succ _) _).setCell (by exact Nat.le_succ _) _

structure NodeNew (n:PN) (G o:Nat) (w:World):Prop where
 kind:w.cell? ⟨G,o,none⟩=some (.int .i64 n.kind)
 a:w.cell? ⟨G,o+1,none⟩=some (.int .i64 n.a)
 b:w.cell? ⟨G,o+2,none⟩=some (.int .i64 n.b)
 nums:∃ g,G<g∧w.cell? ⟨G,o+3,none⟩=some (.slice (some ⟨g,0,none⟩) n.nums.length n.nums.length)∧∀ i (h:i<n.nums.length),w.cell? ⟨g,0+i,none⟩=some (F1 n.nums[i])

theorem NodeNew.into {n:PN} {G o:Nat} {w:World} (h:NodeNew n G o w):NodeIn n G o w:=by
 obtain⟨g,-,h1,h2⟩:=h.nums
 exact⟨h.kind,h.a,h.b,some ⟨g,0,none⟩,g,0,_,h1,fun _=>rfl,h2⟩

theorem NodeNew.keep {n:PN} {G o:Nat} {w w':World} (h:NodeNew n G o w) (hb:Below w.heap.size w w'):NodeNew n G o w':=by
 have l:=fun a v (h:w.cell? a=some v)=>(show w'.cell? a=some v by rw[yc hb a (by rw[h];rfl)];exact h)
 obtain⟨g,h0,h1,h2⟩:=h.nums
 exact⟨l _ _ h.kind,l _ _ h.a,l _ _ h.b,g,h0,l _ _ h1,fun i hi=>l _ _ (h2 i hi)⟩

theorem NodeNew.far {n:PN} {G o:Nat} {w:World} (h:NodeNew n G o w) (p:Addr) (hp:p.block<G) (v:Value):NodeNew n G o (w.setCell p v):=by
 obtain⟨g,h0,h1,h2⟩:=h.nums
 have l:∀ b k,p.block ≠ b→(w.setCell p v).cell? ⟨b,k,none⟩=w.cell? ⟨b,k,none⟩:=fun b k hb=>World.cell?_setCell_far _ _ _ _ hb
 exact⟨by rw[l _ _ (by omega)];exact h.kind,by rw[l _ _ (by omega)];exact h.a,by rw[l _ _ (by omega)];exact h.b,g,h0,by rw[l _ _ (by omega)];exact h1,fun i hi=>by rw[l _ _ (by omega)];exact h2 i hi⟩

theorem NodeNew.set {n:PN} {G o:Nat} {w:World} (h:NodeNew n G o w) (j:Nat) (hj:j<o∨o+4≤j) (v:Value):NodeNew n G o (w.setCell ⟨G,j,none⟩ v):=by
 have l:=fun k u (hk:o≤k∧k<o+4) (h:w.cell? ⟨G,k,none⟩=some u)=>(show (w.setCell ⟨G,j,none⟩ v).cell? ⟨G,k,none⟩=some u by
  exact (zf (w:=w) (a:=⟨G,j,none⟩) (b:=⟨G,k,none⟩) (v:=v) (by intro e;injection e with _ e;omega)).trans h)
 obtain⟨g,h0,h1,h2⟩:=h.nums
 exact⟨l _ _ (by omega) h.kind,l _ _ (by omega) h.a,l _ _ (by omega) h.b,g,h0,l _ _ (by omega) h1,fun i hi=>by rw[World.cell?_setCell_far _ _ _ _ (by show G ≠ g;omega)];exact h2 i hi⟩

theorem NodeNew.made {n:PN} {G o g:Nat} {w:World} {A:Array Value} {T:TypeId} (hA:w.heap[G]? = some (.cells A T (0,0))) (hs:o+4≤A.size) (hg:G<g) (h2:∀ i (h:i<n.nums.length),w.cell? ⟨g,0+i,none⟩=some (F1 n.nums[i])) :
  NodeNew n G o ((((w.setCell ⟨G,o,none⟩ (.int .i64 n.kind)).setCell ⟨G,o+1,none⟩ (.int .i64 n.a)).setCell ⟨G,o+2,none⟩ (.int .i64 n.b)).setCell ⟨G,o+3,none⟩ (.slice (some ⟨g,0,none⟩) n.nums.length n.nums.length)):=by
 have h4:=k6 (k6 (k6 (k6 hA o (.int .i64 n.kind)) (o+1) (.int .i64 n.a)) (o+2) (.int .i64 n.b)) (o+3) (.slice (some ⟨g,0,none⟩) n.nums.length n.nums.length)
 have hf:∀ i,((((w.setCell ⟨G,o,none⟩ (.int .i64 n.kind)).setCell ⟨G,o+1,none⟩ (.int .i64 n.a)).setCell ⟨G,o+2,none⟩ (.int .i64 n.b)).setCell ⟨G,o+3,none⟩ (.slice (some ⟨g,0,none⟩) n.nums.length n.nums.length)).cell? ⟨g,i,none⟩=w.cell? ⟨g,i,none⟩:=fun i=>by
  rw[World.cell?_setCell_far _ _ _ _ (by show G ≠ g;omega),World.cell?_setCell_far _ _ _ _ (by show G ≠ g;omega),World.cell?_setCell_far _ _ _ _ (by show G ≠ g;omega),World.cell?_setCell_far _ _ _ _ (by show G ≠ g;omega)]
 have e0:o<A.size:=by omega
 have e1:o+1<A.size:=by omega
 have e2:o+2<A.size:=by omega
 have e3:o+3<A.size:=by omega
 refine⟨?_,?_,?_,g,hg,?_,fun i hi=>by rw[hf];exact h2 i hi⟩
 all_goals rw[zcp h4]
 ·rw[Array.getElem?_setIfInBounds_ne (by omega),Array.getElem?_setIfInBounds_ne (by omega),Array.getElem?_setIfInBounds_ne (by omega),Array.getElem?_setIfInBounds_self_of_lt e0]
 ·rw[Array.getElem?_setIfInBounds_ne (by omega),Array.getElem?_setIfInBounds_ne (by omega),Array.getElem?_setIfInBounds_self_of_lt (by simpa using e1)]
 ·rw[Array.getElem?_setIfInBounds_ne (by omega),Array.getElem?_setIfInBounds_self_of_lt (by simpa using e2)]
 ·rw[Array.getElem?_setIfInBounds_self_of_lt (by simpa using e3)]

theorem zrf:(Tryz.prog.info? 142).map (fun i=>(i.zero,i.size,i.bytes))=some (some (.agg #[.int .i64 0,.int .i64 0,.int .i64 0,.slice none 0 0]),4,48):=by kernel_rfl

theorem zpo (n:Nat) (hn:(n:Int)≤1048576) (w:World):∃ A:Array Value,A.size=n*4∧(Instr.makeSlice 34 (.int .i64 (n:Int)) (.int .i64 (n:Int))).run Tryz.prog w=.ok (.slice (some ⟨w.heap.size,0,none⟩) n n) (w.alloc (.cells A 142)):=by
 obtain⟨i0,hi,hz0,hz1,hz2⟩:=info_parts zrf
 have h:=run_make (P:=Tryz.prog) w 34 142 i0 _ Tryz.underlying34 hi hz0 .i64 .i64 n n (by omega) (by omega) (by rw[hz2];omega) (by omega)
 rw[hz1]at h
 refine⟨_,?_,h⟩
 simp[madeCells]

set_option maxRecDepth 100000 in
theorem zuc (ns:List PN) (hlen:(ns.length:Int)≤1048576) (hnum:∀ n∈ns,(n.nums.length:Int)≤1048576) (bp:Option Addr) (nb no cap:Nat) (w:World) (hns:NodesIn ns bp nb no w) :
  Calls Tryz.prog 63 #[.slice bp ns.length cap] w (fun e w'=>∃ G,e=.returned (.slice (some ⟨G,0,none⟩) ns.length ns.length)∧(∀ i (h:i<ns.length),NodeNew ns[i] G (0+i*4) w')∧w.heap.size≤G∧Below w.heap.size w w'):=by
 obtain⟨A,hA,hmk⟩:=zpo ns.length hlen w
 go_enter Tryz.func63,Tryz.ntmps63
 go_wp2_with fail
 have W1b:Below w.heap.size w (w.alloc (.cells A 142)):=(by repeat' (first|exact zi _ _|refine zd ?_ _|refine Below.alloc ?_ (by simp<;>omega) _|refine zj ?_ (by simp<;>omega) _|refine za ?_ ‹_›))

 have hpar:=ub w (.cells A 142)
 generalize w.alloc (.cells A 142)=W1 at *
 clear hmk
 go_loopw [4] (fun i wr=>∃ (m:Nat) (A:Array Value),m≤ns.length∧i=.int .i64 (m:Int)∧A.size=ns.length*4∧wr.heap[w.heap.size]? = some (.cells A 142 (0,0))∧(∀ k (h:k<ns.length),k<m→NodeNew ns[k] w.heap.size (k*4) wr)∧Below w.heap.size w wr) (fun i _=>ns.length-(intOf i).toNat)
 case atStart=>exact⟨0,A,by omega,rfl,hA,hpar,fun k _ h=>by omega,W1b⟩
 case round =>
  obtain⟨m,A',hm,rfl,hA',hpar',hk,Wb⟩:=hrel
  clear hpar W1b
  by_cases hlt:m<ns.length
  ·have hlt':(m:Int)<(ns.length:Int):=by omega
   have h0:(0:Int)≤(m:Int):=by omega
   have hne:ns ≠ []:=by intro h;rw[h]at hlt;simp at hlt
   have hbp:=hns.ptr hne
   subst hbp
   have hn:=(hns.node m hlt).keep Wb
   have hnl:=hnum ns[m] (List.getElem_mem _)
   obtain⟨np,nv,nvo,ncap,hn4,hn5,hn6⟩:=hn.nums
   have hn1:=hn.kind
   have hn2:=hn.a
   have hn3:=hn.b
   have hGs:w.heap.size<wr.heap.size:=(Array.getElem?_eq_some_iff.1 hpar').1
   have hc:=zwc ns[m] hnl np nv nvo ncap wr hn5 hn6
   have hkeep:∀ w2,Below wr.heap.size wr w2→∀ k (h:k<ns.length),k<m→NodeNew ns[k] w.heap.size (k*4) w2:=fun w2 hb k h hkm=>(hk k h hkm).keep hb
   have hHk:=Lib.hid hkeep
   have hHp:=Lib.hid hpar'
   have hHns:=Lib.hid hns
   have hHnum:=Lib.hid hnum
   have hnm:ns[m]=ns[m]:=rfl
   clear hn hn5 hn6 hnl hk hkeep hpar' hns hnum hnm
   have hold:Hid (ns[m]=ns[m]):=rfl
   generalize hgn:ns[m]=n at hn1 hn2 hn3 hn4 hc
   have hHgn:=Lib.hid hgn
   clear hgn hold
   go_wp2_with fail
   refine hc.mono ?_
   rintro _ w2⟨g,rfl,hg2,hgs,hb2⟩
   have hpar2:w2.heap[w.heap.size]? = some (.cells A' 142 (0,0)):=by rw[hb2.block _ hGs];exact hHp.out
   have hcell:∀ j (hj:j<4),w2.cell? ⟨w.heap.size,m*4+j,none⟩=some (A'[m*4+j]'(by omega)):=fun j hj=>by rw[zcp hpar2,Array.getElem?_eq_getElem (by omega)]
   have hc0:w2.cell? ⟨w.heap.size,m*4,none⟩=some (A'[m*4]'(by omega)):=by rw[zcp hpar2,Array.getElem?_eq_getElem (by omega)]
   have hc1:=hcell 1 (by omega)
   have hc2:=hcell 2 (by omega)
   have hc3:=hcell 3 (by omega)
   have hfz:=zgx hpar2
   have hmade:=NodeNew.made (n:=n) (o:=m*4) hpar2 (by omega) (show w.heap.size<g by omega) hg2
   have h4:=k6 (k6 (k6 (k6 hpar2 (m*4) (.int .i64 n.kind)) (m*4+1) (.int .i64 n.a)) (m*4+2) (.int .i64 n.b)) (m*4+3) (.slice (some ⟨g,0,none⟩) n.nums.length n.nums.length)
   have hb4:=((((za Wb hb2).setCell (p:=⟨w.heap.size,m*4,none⟩) (Nat.le_refl _) (.int .i64 n.kind)).setCell (p:=⟨w.heap.size,m*4+1,none⟩) (Nat.le_refl _) (.int .i64 n.a)).setCell (p:=⟨w.heap.size,m*4+2,none⟩) (Nat.le_refl _) (.int .i64 n.b)).setCell (p:=⟨w.heap.size,m*4+3,none⟩) (Nat.le_refl _) (.slice (some ⟨g,0,none⟩) n.nums.length n.nums.length)
   have hall:Hid (∀ k (h:k<ns.length),k<m+1→NodeNew ns[k] w.heap.size (k*4) ((((w2.setCell ⟨w.heap.size,m*4,none⟩ (.int .i64 n.kind)).setCell ⟨w.heap.size,m*4+1,none⟩ (.int .i64 n.a)).setCell ⟨w.heap.size,m*4+2,none⟩ (.int .i64 n.b)).setCell ⟨w.heap.size,m*4+3,none⟩ (.slice (some ⟨g,0,none⟩) n.nums.length n.nums.length))):=fun k h hkm=>by
    by_cases hkm':k=m
    ·subst hkm'
     rw[hHgn.out];exact hmade
    ·exact (((((hHk.out w2 hb2 k h (by omega)).set _ (by omega) _).set _ (by omega) _).set _ (by omega) _).set _ (by omega) _)
   have hH4:=Lib.hid h4
   clear hcell hmade h4 hpar2 hg2 hc hb2
   go_wp2_with fail
   exact⟨⟨m+1,_,by omega,by simp,by simpa using hA',hH4.out,hall.out,hb4⟩,by simp[intOf];omega⟩
  ·obtain rfl:m=ns.length:=by omega
   have hH:=Lib.hid hk
   clear hk hpar' hns hnum
   go_wp2_with fail
   go_ret
   exact⟨w.heap.size,rfl,fun i hi=>by rw[Nat.zero_add];exact hH.out i hi hi,Nat.le_refl _,Wb⟩
theorem znc {w:World} {base:Nat} {e:TypeId} {size n:Nat} {v:Value} {xs:List Value} (h:w.ownsRow base e size v n xs):(v=.slice none 0 0∧n=0)∨∃ g cap,v=.slice (some ⟨g,0,none⟩) n cap∧base≤g∧g<w.heap.size:=by
 rcases h.2 with h0|⟨g,cap,cur,hv,hb,hg,_⟩
 ·exact .inl h0
 ·exact .inr ⟨g,cap,hv,hb,(Array.getElem?_eq_some_iff.1 hg).1⟩
def zvl (ns:List PN) (w:World) (e:Ending) (w':World):Prop :=
 ∃ G,e=.returned (.agg #[.slice (some ⟨G,0,none⟩) ns.length ns.length])∧(∀ i (h:i<ns.length),NodeNew ns[i] G (0+i*4) w')∧w.heap.size≤G∧Below w.heap.size w w'

set_option maxRecDepth 100000 in
theorem zmp (ns:List PN) (hlen:(ns.length:Int)≤1048576) (hnum:∀ n∈ns,(n.nums.length:Int)≤1048576) (bp:Option Addr) (nb no cap:Nat) (w:World) (hns:NodesIn ns bp nb no w) :
  Calls Tryz.prog 15 #[.agg #[.slice bp ns.length cap]] w (zvl ns w):=by
 have hc:=fun w' (h:Below w.heap.size w w')=>zuc ns hlen hnum bp nb no cap w' (hns.keep h)
 clear hns hnum
 go_enter Tryz.func15,Tryz.ntmps15
 go_wp2_with fail
 have Wb:Below w.heap.size w (((w.alloc (.cells #[.slice bp ns.length cap] 24)).alloc (.cells #[.slice none 0 0] 36)).alloc (.cells #[.slice none 0 0] 36)):=(by repeat' (first|exact zi _ _|refine zd ?_ _|refine Below.alloc ?_ (by simp<;>omega) _|refine zj ?_ (by simp<;>omega) _|refine za ?_ ‹_›))

 have hkept:zc [(⟨w.heap.size+1,0,none⟩,.slice none 0 0),(⟨w.heap.size+1+1,0,none⟩,.slice none 0 0)] [⟨w.heap.size+1,0,none⟩,⟨w.heap.size+1+1,0,none⟩] (((w.alloc (.cells #[.slice bp ns.length cap] 24)).alloc (.cells #[.slice none 0 0] 36)).alloc (.cells #[.slice none 0 0] 36)):=by
  simp only[zc,ka,kb,zb,kfa,kga];(first|(go_simp;done)|(simp[World.cell?,World.frozen?,World.alloc,Array.getElem?_push];done))
 have hWs:(((w.alloc (.cells #[.slice bp ns.length cap] 24)).alloc (.cells #[.slice none 0 0] 36)).alloc (.cells #[.slice none 0 0] 36)).heap.size=w.heap.size+1+1+1:=by simp
 generalize ((w.alloc (.cells #[.slice bp ns.length cap] 24)).alloc (.cells #[.slice none 0 0] 36)).alloc (.cells #[.slice none 0 0] 36)=W at *
 refine (hc _ Wb).mono ?_
 rintro _ w2⟨G,rfl,hnew,hG,hb2⟩
 have W2b:=za Wb hb2
 have hkept2:=keep hkept hb2
 have hK:=hkept2
 simp only[zc,ka,kb,zb,kfa,kga]at hK
 have hGs:w.heap.size+1+1<G:=by omega
 have hH:=Lib.hid hnew
 clear hc hkept hb2 Wb hnew hkept2 hG hWs
 obtain⟨hK1,hK2⟩:=hK
 go_wp2_with fail
 refine bodyPost_ret (v:=.agg #[.slice (some ⟨G,0,none⟩) ns.length ns.length]) (by simp[results,Tryz.results15,go_sem,hK1,hK2]) rfl ⟨G,rfl,fun i hi=>?_,by omega,?_⟩
 ·exact ((hH.out i hi).far _ (by show w.heap.size+1+1<G;omega) _).far _ (by show w.heap.size+1<G;omega) _
 ·exact (W2b.setCell (by show w.heap.size≤w.heap.size+1+1;omega) _).setCell (by exact Nat.le_succ _) _

set_option maxRecDepth 100000 in
theorem zix (x y z:Nat) (w:World) :
  Calls Tryz.prog 64 #[V3 x y z] w (fun e w'=>e=.returned (V3 x y z)∧Below w.heap.size w w'):=by
 go_enter Tryz.func64,Tryz.ntmps64
 go_wp2_with fail
 exact bodyPost_ret (v:=.agg #[F1 _,F1 _,F1 _]) (by simp[results,Tryz.results64,go_sem];first|done|exact⟨rfl,rfl,rfl⟩) rfl ⟨rfl,(by repeat' (first|exact zi _ _|refine zd ?_ _|refine Below.alloc ?_ (by simp<;>omega) _|refine zj ?_ (by simp<;>omega) _|refine za ?_ ‹_›))⟩

theorem zdp {k:FloatKind} {x:Nat} (h:(k.decode x).isNaN=false):k.format.order x x=some .eq:=by
 show (k.decode x).order (k.decode x)=_
 cases hd:k.decode x with
 | nan s t=>rw[hd]at h;cases h
 | infinity s=>cases s<;>rfl
 | number s m e =>
  show some (compare _ _)=_
  rw[Ft.cmp_eq.2 rfl]

theorem zv5 {a b:Nat} (h:cn .f64 a=cn .f64 b):((FloatKind.f64.format.order a 0==some .gt)==(FloatKind.f64.format.order b 0==some .gt))=true:=by
 rw[← ua .f64 a,← ua .f64 b,h];simp

set_option maxRecDepth 100000 in
theorem zf3 (u v:Nat) (h:cn .f64 u=cn .f64 v) (w:World) :
  Calls Tryz.prog 47 #[.float .f64 u,.float .f64 v] w (fun e w'=>e=.returned (.bool true)∧Below w.heap.size w w'):=by
 cases hu:(FloatKind.f64.decode u).isNaN
 ·have hv:(FloatKind.f64.decode v).isNaN=false:=by rw[← jh,← h,jh];exact hu
  rw[xh hu,xh hv]at h
  subst h
  have h1:(FloatKind.f64.format.order u u != some .eq)=false:=by rw[zdp hu];rfl
  have h2:(FloatKind.f64.format.order u u==some .eq)=true:=by rw[zdp hu];rfl
  clear hu hv
  cases hz:(FloatKind.f64.format.order u 0==some .eq)
  ·go_enter Tryz.func47,Tryz.ntmps47
   go_wp2_with (refine z6 rfl _ _ _ _ _ rfl _ _ _ rfl rfl rfl ?_;intro r n hr)
   go_ret
   exact⟨by first|rfl|(rw[h2];rfl)|simp,(by repeat' (first|exact zi _ _|refine zd ?_ _|refine Below.alloc ?_ (by simp<;>omega) _|refine zj ?_ (by simp<;>omega) _|refine za ?_ ‹_›))⟩
  ·go_enter Tryz.func47,Tryz.ntmps47
   go_wp2_with (refine z6 rfl _ _ _ _ _ rfl _ _ _ rfl rfl rfl ?_;intro r n hr)
   go_ret
   exact⟨congrArg Ending.returned (congrArg Value.bool (zv5 (by simp only[*]))),(by repeat' (first|exact zi _ _|refine zd ?_ _|refine Below.alloc ?_ (by simp<;>omega) _|refine zj ?_ (by simp<;>omega) _|refine za ?_ ‹_›))⟩
 ·have hv:(FloatKind.f64.decode v).isNaN=true:=by rw[← jh,← h,jh];exact hu
  have h1:(FloatKind.f64.format.order u u != some .eq)=true:=by
   show ((FloatKind.f64.decode u).order (FloatKind.f64.decode u) != some .eq)=true
   rw[zcr hu];rfl
  have h2:(FloatKind.f64.format.order v v != some .eq)=true:=by
   show ((FloatKind.f64.decode v).order (FloatKind.f64.decode v) != some .eq)=true
   rw[zcr hv];rfl
  clear hu hv h
  go_enter Tryz.func47,Tryz.ntmps47
  go_wp2_with fail
  go_ret
  exact⟨rfl,(by repeat' (first|exact zi _ _|refine zd ?_ _|refine Below.alloc ?_ (by simp<;>omega) _|refine zj ?_ (by simp<;>omega) _|refine za ?_ ‹_›))⟩

open Go.RowKit Go.Fl
theorem zwq {P:Program} {W:World} {Phi:FuncId→Array Value→Value→Prop} {o:Oper} {a:Act} {K:Act→Prop} (s d:TypeId) (x:Operand)
  (ho:o.op=.convert s d x) (u:Nat) (hx:a.eval x=F1 u) (hs:(P.underlying s).isSome=true) (hd:P.underlying d=some (.float .f64))
  (h:∀ r,cn .f64 r=wid (cn .f32 u)→K (a.put o.dst (.float .f64 r))):Qr.one P (fun w'=>Below W.heap.size W w') Phi o a K:=by
 refine Qr.one_rel (fun x=>∃ r,x=.float .f64 r∧cn .f64 r=wid (cn .f32 u)) (fun w' hw'=>?_) ?_
 ·obtain⟨r,n,hr,hc⟩:=zhb (P:=P) w' s d .f32 .f64 (by decide) hs hd u (kqb u)
  refine⟨_,w'.drewN n,k8 o a s d x ho w' _ _ (by rw[hx];exact hr),⟨r,rfl,?_⟩,⟨hw'.os,hw'.tape,hw'.output,hw'.size,hw'.block⟩,rfl,rfl,rfl,Nat.le_refl _,fun _ _=>rfl⟩
  rw[hc];exact (zjg .f32 .f64 u).symm
 ·rintro _ ⟨r,rfl,hr⟩
  exact h r hr

inductive PhiE:FuncId→Array Value→Value→Prop
 | yes (f:FuncId) (args:Array Value):PhiE f args (.bool true)


set_option maxRecDepth 100000 in
theorem zsw (xs:List Nat) (hlen:(xs.length:Int)≤1048576) (p q:Nat) (pc qc:Nat) (w:World) (h1:∀ i (h:i<xs.length),w.cell? ⟨p,0+i,none⟩=some (F1 xs[i])) (h2:∀ i (h:i<xs.length),w.cell? ⟨q,0+i,none⟩=some (F1 xs[i])) :
  Calls Tryz.prog 226 #[.slice (some ⟨p,0,none⟩) xs.length pc,.slice (some ⟨q,0,none⟩) xs.length qc] w (fun e w'=>e=.returned (.bool true)∧Below w.heap.size w w'):=by
 go_enter Tryz.func226,Tryz.ntmps226
 go_wp2_with fail
 go_loopw [5] (fun i wr=>∃ (m:Nat),m≤xs.length∧i=.int .i64 (m:Int)∧Below w.heap.size w wr) (fun i _=>xs.length-(intOf i).toNat)
 case atStart=>exact⟨0,by omega,rfl,zi _ _⟩
 case round =>
  obtain⟨m,hm,rfl,Wb⟩:=hrel
  by_cases hlt:m<xs.length
  ·have hlt':(m:Int)<(xs.length:Int):=by omega
   have h0:(0:Int)≤(m:Int):=by omega
   have hc1:wr.cell? ⟨p,m,none⟩=some (F1 xs[m]):=by have:=h1 m hlt;rw[Nat.zero_add]at this;rw[yc Wb _ (by rw[this];rfl)];exact this
   have hc2:wr.cell? ⟨q,m,none⟩=some (F1 xs[m]):=by have:=h2 m hlt;rw[Nat.zero_add]at this;rw[yc Wb _ (by rw[this];rfl)];exact this
   generalize xs[m]=x at hc1 hc2
   have hkept:zc [(⟨p,m,none⟩,F1 x),(⟨q,m,none⟩,F1 x)] [] wr:=by
    simp only[zc,ka,kb,zb,kfa,kga]
    exact⟨hc1,hc2⟩
   clear h1 h2 hc1 hc2
   go_upto_region 6 with fail
   refine Qr.wp_below_all (by kernel_rfl) (by kernel_rfl) PhiE ?_
   repeat (refine Qr.walk_plain rfl fun K hK=>?_;(first|(apply Qr.one_det;(focus (intro w' hw';have HK:=keep hkept hw';simp only[zc,ka,kb,zb,kfa,kga]at HK;go_simp;first|done|rfl)))|(refine zwq _ _ _ rfl _ rfl jx Tryz.underlying89 (fun r hr=>?_))|(apply Qr.one_call;(focus (intro w' hw';go_simp;first|done|exact⟨rfl,rfl⟩));(focus (intro w' hw';go_at_call 47;refine (zf3 _ _ (by simp only[*]) _).mono ?_;rintro _ w2⟨rfl,hb1⟩;exact⟨_,rfl,PhiE.yes _ _,za hw' ‹_›,by assumption⟩));intro v hv;cases hv));go_simp;refine hK _ ?_;clear hK K)
   refine Qr.walk_nil fun w6 hw6=>?_
   go_wp2_with fail
   exact⟨⟨m+1,by omega,by simp,za Wb hw6⟩,by simp[intOf];omega⟩
  ·obtain rfl:m=xs.length:=by omega
   clear h1 h2
   go_wp2_with fail
   go_ret
   exact⟨rfl,Wb⟩

set_option maxRecDepth 100000 in
theorem zwt (n:PN) (hlen:(n.nums.length:Int)≤1048576) (p q pc qc:Nat) (w:World) (h1:∀ i (h:i<n.nums.length),w.cell? ⟨p,0+i,none⟩=some (F1 n.nums[i])) (h2:∀ i (h:i<n.nums.length),w.cell? ⟨q,0+i,none⟩=some (F1 n.nums[i])) :
  Calls Tryz.prog 139 #[.agg #[.int .i64 n.kind,.int .i64 n.a,.int .i64 n.b,.slice (some ⟨p,0,none⟩) n.nums.length pc],.agg #[.int .i64 n.kind,.int .i64 n.a,.int .i64 n.b,.slice (some ⟨q,0,none⟩) n.nums.length qc]] w (fun e w'=>e=.returned (.bool true)∧Below w.heap.size w w'):=by
 have hc:∀ w',Below w.heap.size w w'→Calls Tryz.prog 226 #[.slice (some ⟨p,0,none⟩) n.nums.length pc,.slice (some ⟨q,0,none⟩) n.nums.length qc] w' (fun e w''=>e=.returned (.bool true)∧Below w'.heap.size w' w'') :=
  fun w' hb=>zsw n.nums hlen p q pc qc w' (fun i h=>by rw[yc hb _ (by rw[h1 i h];rfl)];exact h1 i h) (fun i h=>by rw[yc hb _ (by rw[h2 i h];rfl)];exact h2 i h)
 clear h1 h2
 go_enter Tryz.func139,Tryz.ntmps139
 go_wp2_with (go_at_call 226;refine (hc _ (by repeat' (first|exact zi _ _|refine zd ?_ _|refine Below.alloc ?_ (by simp<;>omega) _|refine zj ?_ (by simp<;>omega) _|refine za ?_ ‹_›))).mono ?_;rintro _ w2⟨rfl,hb2⟩)
 go_ret
 exact⟨rfl,(by repeat' (first|exact zi _ _|refine zd ?_ _|refine Below.alloc ?_ (by simp<;>omega) _|refine zj ?_ (by simp<;>omega) _|refine za ?_ ‹_›))⟩

set_option maxRecDepth 100000 in
theorem ztp (ns:List PN) (hlen:(ns.length:Int)≤1048576) (hnum:∀ n∈ns,(n.nums.length:Int)≤1048576) (G H gc hc:Nat) (w:World) (h1:∀ i (h:i<ns.length),NodeNew ns[i] G (0+i*4) w) (h2:∀ i (h:i<ns.length),NodeNew ns[i] H (0+i*4) w) :
  Calls Tryz.prog 69 #[.slice (some ⟨G,0,none⟩) ns.length gc,.slice (some ⟨H,0,none⟩) ns.length hc] w (fun e w'=>e=.returned (.bool true)∧Below w.heap.size w w'):=by
 go_enter Tryz.func69,Tryz.ntmps69
 go_wp2_with fail
 go_loopw [5] (fun i wr=>∃ (m:Nat),m≤ns.length∧i=.int .i64 (m:Int)∧Below w.heap.size w wr) (fun i _=>ns.length-(intOf i).toNat)
 case atStart=>exact⟨0,by omega,rfl,zi _ _⟩
 case round =>
  obtain⟨m,hm,rfl,Wb⟩:=hrel
  by_cases hlt:m<ns.length
  ·have hlt':(m:Int)<(ns.length:Int):=by omega
   have h0:(0:Int)≤(m:Int):=by omega
   have hA:=(h1 m hlt).keep Wb
   have hB:=(h2 m hlt).keep Wb
   have hnl:=hnum ns[m] (List.getElem_mem _)
   rw[Nat.zero_add]at hA hB
   generalize ns[m]=n at hA hB hnl
   obtain⟨p,-,hA3,hA4⟩:=hA.nums
   obtain⟨q,-,hB3,hB4⟩:=hB.nums
   have hkept:zc [(⟨G,m*4,none⟩,.int .i64 n.kind),(⟨G,m*4+1,none⟩,.int .i64 n.a),(⟨G,m*4+2,none⟩,.int .i64 n.b),(⟨G,m*4+3,none⟩,.slice (some ⟨p,0,none⟩) n.nums.length n.nums.length),(⟨H,m*4,none⟩,.int .i64 n.kind),(⟨H,m*4+1,none⟩,.int .i64 n.a),(⟨H,m*4+2,none⟩,.int .i64 n.b),(⟨H,m*4+3,none⟩,.slice (some ⟨q,0,none⟩) n.nums.length n.nums.length)] [] wr:=by
    simp only[zc,ka,kb,zb,kfa,kga]
    exact⟨hA.kind,hA.a,hA.b,hA3,hB.kind,hB.a,hB.b,hB3⟩
   have hcall:∀ w',Below wr.heap.size wr w'→Calls Tryz.prog 139 #[.agg #[.int .i64 n.kind,.int .i64 n.a,.int .i64 n.b,.slice (some ⟨p,0,none⟩) n.nums.length n.nums.length],.agg #[.int .i64 n.kind,.int .i64 n.a,.int .i64 n.b,.slice (some ⟨q,0,none⟩) n.nums.length n.nums.length]] w' (fun e w''=>e=.returned (.bool true)∧Below w'.heap.size w' w'') :=
    fun w' hb=>zwt n hnl p q _ _ w' (fun i h=>by rw[yc hb _ (by rw[hA4 i h];rfl)];exact hA4 i h) (fun i h=>by rw[yc hb _ (by rw[hB4 i h];rfl)];exact hB4 i h)
   clear h1 h2 hA hB hA3 hA4 hB3 hB4 hnum
   go_upto_region 6 with fail
   refine Qr.wp_below_all (by kernel_rfl) (by kernel_rfl) PhiE ?_
   repeat (refine Qr.walk_plain rfl fun K hK=>?_;(first|(apply Qr.one_det;(focus (intro w' hw';have HK:=keep hkept hw';simp only[zc,ka,kb,zb,kfa,kga]at HK;go_simp;first|done|rfl)))|(apply Qr.one_call;(focus (intro w' hw';go_simp;first|done|exact⟨rfl,rfl⟩));(focus (intro w' hw';go_at_call 139;refine (hcall _ hw').mono ?_;rintro _ w2⟨rfl,hb1⟩;exact⟨_,rfl,PhiE.yes _ _,za hw' ‹_›,by assumption⟩));intro v hv;cases hv));go_simp;refine hK _ ?_;clear hK K)
   refine Qr.walk_nil fun w6 hw6=>?_
   go_wp2_with fail
   exact⟨⟨m+1,by omega,by simp,za Wb hw6⟩,by simp[intOf];omega⟩
  ·obtain rfl:m=ns.length:=by omega
   clear h1 h2 hnum
   go_wp2_with fail
   go_ret
   exact⟨rfl,Wb⟩

set_option maxRecDepth 100000 in
theorem zlz (ns:List PN) (hlen:(ns.length:Int)≤1048576) (hnum:∀ n∈ns,(n.nums.length:Int)≤1048576) (G H gc hc:Nat) (w:World) (h1:∀ i (h:i<ns.length),NodeNew ns[i] G (0+i*4) w) (h2:∀ i (h:i<ns.length),NodeNew ns[i] H (0+i*4) w) :
  Calls Tryz.prog 19 #[.agg #[.slice (some ⟨G,0,none⟩) ns.length gc],.agg #[.slice (some ⟨H,0,none⟩) ns.length hc]] w (fun e w'=>e=.returned (.bool true)∧Below w.heap.size w w'):=by
 have hcall:=fun w' (hb:Below w.heap.size w w')=>ztp ns hlen hnum G H gc hc w' (fun i h=>(h1 i h).keep hb) (fun i h=>(h2 i h).keep hb)
 clear h1 h2 hnum
 go_enter Tryz.func19,Tryz.ntmps19
 go_wp2_with (go_at_call 69;refine (hcall _ (by repeat' (first|exact zi _ _|refine zd ?_ _|refine Below.alloc ?_ (by simp<;>omega) _|refine zj ?_ (by simp<;>omega) _|refine za ?_ ‹_›))).mono ?_;rintro _ w2⟨rfl,hb2⟩)
 go_ret
 exact⟨rfl,(by repeat' (first|exact zi _ _|refine zd ?_ _|refine Below.alloc ?_ (by simp<;>omega) _|refine zj ?_ (by simp<;>omega) _|refine za ?_ ‹_›))⟩
theorem zum {u v a b:Nat} (h1:cn .f64 u=wid (cn .f32 a)) (h2:cn .f64 v=wid (cn .f32 b)) (h:cn .f32 a=cn .f32 b):cn .f64 u=cn .f64 v:=by rw[h1,h2,h]

set_option maxRecDepth 100000 in
theorem zr6 (a b c a' b' c':Nat) (e1:cn .f32 a=cn .f32 a') (e2:cn .f32 b=cn .f32 b') (e3:cn .f32 c=cn .f32 c') (w:World) :
  Calls Tryz.prog 86 #[V3 a b c,V3 a' b' c'] w (fun e w'=>e=.returned (.bool true)∧Below w.heap.size w w'):=by
 go_enter Tryz.func86,Tryz.ntmps86
 go_upto_region 1 with fail
 generalize hW:(w.alloc (.cells #[F1 a,F1 b,F1 c] 38)).alloc (.cells #[F1 a',F1 b',F1 c'] 38)=W1 at *
 have W1b:Below w.heap.size w W1:=by subst hW;exact xa ..
 have hkept:=yt false false hW;simp only[zr,zq,zo,zv,Nat.reduceAdd]at hkept;clear hW
 have hK:=hkept;simp only[zc,ka,kb,zb,kfa,kga]at hK
 go_wp2_with (first
  | (refine zbb rfl _ _ _ rfl _ rfl ?_ ?_ kqb ?_;exact jx;exact Tryz.underlying89;intro r n hr)
  | (go_at_call 47;refine (zf3 _ _ (zum ‹_› ‹_› (by first|exact e1|exact e2|exact e3)) _).mono ?_;rintro _ w6⟨rfl,hb1⟩;have hkept:=zn hkept hb1 rfl;replace hK:=hkept;simp only[zc,ka,kb,zb,kfa,kga]at hK))
 go_ret
 exact⟨rfl,(by repeat' (first|exact zi _ _|refine Below.drew ?_|refine zd ?_ _|refine Below.alloc ?_ (by simp<;>omega) _|refine zj ?_ (by simp<;>omega) _|refine za ?_ ‹_›))⟩

def GdL (ns:List PN) (W:World) (sl:List Tmp) (al:List (Tmp × Array Value × TypeId)) (rs:Tmp) (Res:Value→Prop) (d:Tmp) (v:Value) (w:World):Prop :=
 (d∈sl→∀ G,v=.agg #[.slice (some ⟨G,0,none⟩) ns.length ns.length]→∀ i (h:i<ns.length),NodeNew ns[i] G (0+i*4) w) ∧
 (∀ x∈al,x.1=d→∀ p,v=.pointer p→∃ g,p=some ⟨g,0,none⟩∧W.heap.size≤g∧w.heap[g]? = some (.cells x.2.1 x.2.2 (0,0))) ∧
 (d=rs→v=undef∨Res v)

theorem qk (ns:List PN) (W:World) (sl:List Tmp) (al:List (Tmp × Array Value × TypeId)) (rs:Tmp) (Res:Value→Prop):Qg.Lasts (GdL ns W sl al rs Res):=by
 refine⟨fun d v w w' h hb=>⟨fun hd G hv i hi=>(h.1 hd G hv i hi).keep hb,fun x hx hd p hp=>?_,h.2.2⟩,fun d w=>⟨fun _ G hv=>(by cases hv),fun x _ _ p hp=>(by cases hp),fun _=>Or.inl rfl⟩⟩
 obtain⟨g,h1,h2,h3⟩:=h.2.1 x hx hd p hp
 refine⟨g,h1,h2,?_⟩
 have hlt:g<w.heap.size:=by
  rcases Nat.lt_or_ge g w.heap.size with h'|h'
  ·exact h'
  ·rw[Array.getElem?_eq_none h']at h3;cases h3
 rw[hb.block g hlt];exact h3

theorem ki {ns:List PN} {W:World} {sl ad:List Tmp} {al:List (Tmp × Array Value × TypeId)} {rs:Tmp} {Res:Value→Prop} {a:Act} {w:World} (h:∀ d∈sl++ad++[rs],a.tmps.getD d undef=undef) (ha:al.map (·.1)=ad):Qg.E (GdL ns W sl al rs Res) ad a w:=by
 have hnp:∀ p,undef ≠ Value.pointer p:=fun p h=>by cases h
 refine⟨fun d=>⟨fun hd G hv=>?_,fun x hx hd p hp=>?_,fun hd=>Or.inl ?_⟩,fun d hd g hv=>?_,fun d hd e he _ g hv=>?_⟩
 ·rw[h d (by simp[hd])]at hv;cases hv
 ·rw[h d (by have:x.1∈al.map (·.1):=List.mem_map.2 ⟨x,hx,rfl⟩;rw[ha,hd]at this;simp[this])]at hp;exact absurd hp (hnp _)
 ·rw[h d (by simp[hd])]
 ·rw[h d (by simp[hd])]at hv;exact absurd hv (hnp _)
 ·rw[h d (by simp[hd])]at hv;exact absurd hv (hnp _)

theorem jy {ns:List PN} {W:World} {sl:List Tmp} {al:List (Tmp × Array Value × TypeId)} {rs:Tmp} {Res:Value→Prop} {d:Tmp} {v:Value} {w:World} (h1:d ∉ sl) (h2:d ∉ al.map (·.1)) (h3:d ≠ rs):Qg.gd (GdL ns W sl al rs Res) (some d) v w :=
 ⟨fun h=>absurd h h1,fun x hx hd=>absurd (List.mem_map.2 ⟨x,hx,hd⟩) h2,fun h=>absurd h h3⟩
theorem zev {ns:List PN} {W:World} {sl:List Tmp} {al:List (Tmp × Array Value × TypeId)} {rs:Tmp} {Res:Value→Prop} {d:Tmp} {G:Nat} {w:World} (h:∀ i (h:i<ns.length),NodeNew ns[i] G (0+i*4) w) (h2:d ∉ al.map (·.1)) (h3:d ≠ rs):Qg.gd (GdL ns W sl al rs Res) (some d) (.agg #[.slice (some ⟨G,0,none⟩) ns.length ns.length]) w :=
 ⟨fun _ G' hv=>by injection hv with hv;injection hv with hv;injection hv with hv;injection hv with hv;injection hv with hv;injection hv with hv;subst hv;exact h,fun x hx hd=>absurd (List.mem_map.2 ⟨x,hx,hd⟩) h2,fun h=>absurd h h3⟩
theorem zpz {ns:List PN} {W:World} {sl:List Tmp} {al:List (Tmp × Array Value × TypeId)} {rs:Tmp} {Res:Value→Prop} {v:Value} {w:World} (h1:rs ∉ sl) (h2:rs ∉ al.map (·.1)) (h:Res v):Qg.gd (GdL ns W sl al rs Res) (some rs) v w :=
 ⟨fun h=>absurd h h1,fun x hx hd=>absurd (List.mem_map.2 ⟨x,hx,hd⟩) h2,fun _=>.inr h⟩
theorem zc1 {ns:List PN} {W:World} {sl:List Tmp} {al:List (Tmp × Array Value × TypeId)} {rs:Tmp} {Res:Value→Prop} {d:Tmp} {zs:Array Value} {T:TypeId} {w:World} (h1:d ∉ sl) (h2:∀ x∈al,x.1=d→x=(d,zs,T)) (h3:d ≠ rs) (hb:Below W.heap.size W w):Qg.gd (GdL ns W sl al rs Res) (some d) (.pointer (some ⟨w.heap.size,0,none⟩)) (w.alloc (.cells zs T)) :=
 ⟨fun h=>absurd h h1,fun x hx hd p hp=>by
  have:=h2 x hx hd
  subst this
  injection hp with hp
  exact⟨w.heap.size,hp.symm,hb.size,by show (w.heap.push _)[w.heap.size]? = _;simp⟩,fun h=>absurd h h3⟩

theorem zy1 {w:World} {g k B:Nat} {a b c a' b' c':Value} {T T':TypeId} (hg:w.heap[g]? = some (.cells #[a,b,c] T (0,0))) (hk:w.heap[k]? = some (.cells #[a',b',c'] T' (0,0))) (hne:g ≠ k) (hB:B≤g∧B≤k) (x y z x' y' z':Value) :
  zc [(⟨g,0,none⟩,x),(⟨g,1,none⟩,y),(⟨g,2,none⟩,z),(⟨k,0,none⟩,x'),(⟨k,1,none⟩,y'),(⟨k,2,none⟩,z')] [] ((((((w.setCell ⟨g,0,none⟩ x).setCell ⟨g,1,none⟩ y).setCell ⟨g,2,none⟩ z).setCell ⟨k,0,none⟩ x').setCell ⟨k,1,none⟩ y').setCell ⟨k,2,none⟩ z')∧Below B w ((((((w.setCell ⟨g,0,none⟩ x).setCell ⟨g,1,none⟩ y).setCell ⟨g,2,none⟩ z).setCell ⟨k,0,none⟩ x').setCell ⟨k,1,none⟩ y').setCell ⟨k,2,none⟩ z'):=by
 obtain⟨h1,h2⟩:=zca hg x y z
 have hk':(((w.setCell ⟨g,0,none⟩ x).setCell ⟨g,1,none⟩ y).setCell ⟨g,2,none⟩ z).heap[k]? = some (.cells #[a',b',c'] T' (0,0)):=by
  simp only[World.setCell,Array.getElem?_modify,if_neg hne];exact hk
 generalize ((w.setCell ⟨g,0,none⟩ x).setCell ⟨g,1,none⟩ y).setCell ⟨g,2,none⟩ z=w1 at *
 obtain⟨h3,h4⟩:=zca hk' x' y' z'
 have h5:(((w1.setCell ⟨k,0,none⟩ x').setCell ⟨k,1,none⟩ y').setCell ⟨k,2,none⟩ z').heap[g]? = some (.cells #[x,y,z] T (0,0)):=by
  simp only[World.setCell,Array.getElem?_modify,if_neg (Ne.symm hne)];exact h1
 obtain⟨p0,p1,p2,-⟩:=vw h5
 obtain⟨q0,q1,q2,-⟩:=vw h3
 refine⟨?_,(h2.mono hB.1).trans (h4.mono hB.2)⟩
 simp only[zc,ka,kb,zb,kfa,kga]
 simp[p0,p1,p2,q0,q1,q2]
def atS (ns:List PN) (p:V):Nat:=(zcb ns (zcg ns p ns.length) ns.length).getD (ns.length-1) 0

set_option maxRecDepth 100000 in
theorem zmm (ns:List PN) (hok:qx ns) (hl:1≤ns.length∧ns.length≤16) (sb so nb no cap x y z:Nat) (w:World) (hsh:ShapeIn ns sb so nb no cap w) :
  Calls Tryz.prog 80 #[.pointer (some ⟨sb,so,none⟩),V3 x y z] w (Ret .f32 (atS ns (cn .f32 x,cn .f32 y,cn .f32 z)) w):=by
 have hsb:sb<w.heap.size:=zg (a:=⟨sb,so,none⟩) (by rw[hsh.list];rfl)
 have hr1:(1:Int)≤(ns.length:Int):=by omega
 have hr2:(ns.length:Int)≤16:=by omega
 have hr0:(0:Int)≤(ns.length:Int)-1:=by omega
 have hr3:((ns.length:Int)-1).toNat=ns.length-1:=by omega
 go_enter Tryz.func80,Tryz.ntmps80
 go_wp2_with fail
 have W1b:Below w.heap.size w (w.alloc (.cells #[F1 x,F1 y,F1 z] 38)):=(by repeat' (first|exact zi _ _|refine zd ?_ _|refine Below.alloc ?_ (by simp<;>omega) _|refine zj ?_ (by simp<;>omega) _|refine za ?_ ‹_›))

 have hsh1:=hsh.keep W1b
 generalize w.alloc (.cells #[F1 x,F1 y,F1 z] 38)=W1 at *
 refine (zsa ns hok hl sb so nb no cap x y z W1 hsh1).mono ?_
 rintro _ w2⟨v,xs,rfl,hown,hxs,hb2⟩
 have W2b:=za W1b hb2
 obtain⟨g,cap2,rfl,-,-⟩:=hown.form (by omega)
 have hlen:xs.length=ns.length:=by have:=hown.1;simpa using this
 have hc:=hown.cellAt (ns.length-1) (by omega)
 rw[show (fl xs)[ns.length-1]? = some (F1 (xs[ns.length-1]'(by omega))) by simp[fl,List.getElem?_eq_getElem (show ns.length-1<xs.length by omega)]]at hc
 have hv:Hid (cn .f32 (xs[ns.length-1]'(by omega))=atS ns (cn .f32 x,cn .f32 y,cn .f32 z)):=by
  unfold Hid atS
  rw[← hxs,List.getD_eq_getElem?_getD,List.getElem?_map,List.getElem?_eq_getElem (show ns.length-1<xs.length by omega)];rfl
 generalize xs[ns.length-1]'(by omega)=r at hc hv
 clear hxs hlen hown hb2 hsh1 W1b hsh
 go_wp2_with fail
 go_ret
 exact⟨r,rfl,hv.out,W2b⟩

inductive PhiVf:FuncId→Array Value→Value→Prop
 | mk (x y z:Nat):PhiVf 121 #[V3 x y z] (.bool (zdw (cn .f32 x,cn .f32 y,cn .f32 z)))
theorem zmo {x y z:Nat} {b:Bool} {v:Value} (h:zdw (cn .f32 x,cn .f32 y,cn .f32 z)=b) (hv:PhiVf 121 #[V3 x y z] v):v=.bool b:=by
 cases hv;rw[h]
def TrD (d:Tmp) (v:Value) (w:World):Prop:=True
theorem zrk:Qg.Lasts TrD:=⟨fun _ _ _ _ _ _=>trivial,fun _ _=>trivial⟩
theorem zsj {a:Act} {w:World}:Qg.E TrD [] a w:=by
 refine⟨fun _=>trivial,?_,?_⟩<;>(intro d hd;cases hd)
theorem zua (d:Option Tmp) (v:Value) (w:World):Qg.gd TrD d v w:=by cases d<;>trivial


set_option maxRecDepth 100000 in
theorem qi (a b c d e f g p:Nat) (w:World) (hN:zc [(⟨g,p,none⟩,F1 a),(⟨g,p+1,none⟩,F1 b),(⟨g,p+2,none⟩,F1 c),(⟨g,p+3,none⟩,F1 d),(⟨g,p+4,none⟩,F1 e),(⟨g,p+5,none⟩,F1 f)] [] w) :
  Calls Tryz.prog 61 #[.pointer (some ⟨g,p,none⟩)] w (fun e' w'=>e'=.returned (.bool (zaq (cn .f32 a,cn .f32 b,cn .f32 c) (cn .f32 d,cn .f32 e,cn .f32 f)))∧Below w.heap.size w w'):=by
 obtain⟨U,hU⟩:∃ U,Hid (zaq (cn .f32 a,cn .f32 b,cn .f32 c) (cn .f32 d,cn .f32 e,cn .f32 f)=U):=⟨_,rfl⟩
 rw[hU.out]
 have hUo:=hU.out
 unfold zaq at hUo
 simp only[zp1]at hUo
 obtain⟨FA,hFA⟩:∃ FA,Hid (zdw (cn .f32 a,cn .f32 b,cn .f32 c)=FA):=⟨_,rfl⟩
 obtain⟨FB,hFB⟩:∃ FB,Hid (zdw (cn .f32 d,cn .f32 e,cn .f32 f)=FB):=⟨_,rfl⟩
 rw[hFA.out,hFB.out]at hUo
 clear hU
 rcases zyq FA FB (FloatKind.f32.format.order a d==some .lt || FloatKind.f32.format.order a d==some .eq) (FloatKind.f32.format.order b e==some .lt || FloatKind.f32.format.order b e==some .eq) (FloatKind.f32.format.order c f==some .lt || FloatKind.f32.format.order c f==some .eq) with rfl|⟨rfl,rfl⟩|⟨rfl,rfl,h3⟩|⟨rfl,rfl,h3,h4⟩|⟨rfl,rfl,h3,h4,h5⟩|⟨rfl,rfl,h3,h4,h5⟩
 all_goals
  simp only[*,Bool.and_true,Bool.and_false,Bool.false_and,Bool.true_and]at hUo
  subst hUo
  go_enter Tryz.func61,Tryz.ntmps61
  have W1b:=zi w.heap.size w
  have hkept:=hN
  have hK:=hkept;simp only[zc,ka,kb,zb,kfa,kga]at hK
  go_upto_region 1 with fail
  refine Qg.wp_gd_all (by kernel_rfl) (by kernel_rfl) PhiVf TrD [] zrk zsj ?_
  intro hC0
  repeat (first|(refine Qg.walk_step fun K hK=>?_;refine Qg.one_not rfl ?_;go_simp;refine hK _ ?_;clear hK K)|(refine Qg.walk_step fun K hK=>?_;apply Qg.one_det hC0 (by intro d _ hd;cases hd) rfl;(focus (intro w' hw';have HK:=keep hkept hw';simp only[zc,ka,kb,zb,kfa,kga]at HK;go_simp;first|done|rfl));(focus (intro w' hw' hs;exact zua _ _ _));go_simp;refine hK _ ?_;clear hK K)|(refine Qg.walk_step fun K hK=>?_;apply Qg.one_call _ _ hC0 (by intro d _ hd;cases hd) rfl;(focus (intro w' hw';go_simp;first|done|exact⟨rfl,rfl⟩));(focus (exact⟨_,.mk _ _ _⟩));(focus (intro w' hw' hs;go_at_call 121;refine (zpg _ _ _ _).mono ?_;rintro _ w2⟨rfl,hb1⟩;exact⟨_,rfl,.mk _ _ _,zua _ _ _,za hw' hb1,hb1⟩));intro v hv;(first|(obtain rfl:=zmo hFA.out hv)|(obtain rfl:=zmo hFB.out hv));go_simp;refine hK _ ?_;clear hK K))
  refine Qg.walk_nil fun w6 hw6 hE=>?_
  clear hE hC0
  go_wp2_with fail
  go_ret
  exact⟨rfl,hw6⟩
end Go.Proofs.YtbiacfkiakddiaaGreat
