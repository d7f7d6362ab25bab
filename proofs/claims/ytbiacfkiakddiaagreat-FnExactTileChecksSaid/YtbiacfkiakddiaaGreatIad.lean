/-
 Lemmas: U7,U8,U9,U10,C5,D15,V24.
-/
import Derived.Test.YtbiacfkiakddiaaGreatIac
set_option linter.unusedVariables false
set_option linter.unusedSimpArgs false
namespace Go.Proofs.YtbiacfkiakddiaaGreat
open Go.RowKit Go.Fl
theorem NumFree.far {G o:Nat} {w:World} (h:NumFree G o w) (p:Addr) (hp:p.block < G) (v:Value):NumFree G o (w.setCell p v):=by
 obtain ⟨g,n,m,h0,h1,h2,h3⟩:=h
 exact ⟨g,n,m,h0,by rw [World.cell?_setCell_far _ _ _ _ (by show p.block ≠ G;omega)];exact h1,by simpa [World.setCell] using h2,fun j => by rw [World.frozen?_setCell];exact h3 j⟩

/-- A shape made anew,which can be written. -/
def RetShW (ns:List PN) (w:World) (e:Ending) (w':World):Prop :=
 ∃ G,e = .returned (.agg #[.slice (some ⟨G,0,none⟩) ns.length ns.length]) ∧ (∀ i (h:i < ns.length),NodeNew ns[i] G (0 + i * 4) w' ∧ NumFree G (0 + i * 4) w') ∧ w.heap.size ≤ G ∧ Below w.heap.size w w' ∧ G < w'.heap.size ∧ ∀ o,w'.frozen? ⟨G,o,none⟩ = false

set_option maxRecDepth 100000 in
set_option maxHeartbeats 2000000 in
theorem to_shapeW (ns:List PN) (hlen:(ns.length:Int) ≤ 1048576) (hnum:∀ n ∈ ns,(n.nums.length:Int) ≤ 1048576) (bp:Option Addr) (nb no cap:Nat) (w:World) (hns:NodesIn ns bp nb no w) :
  Calls Tryz.prog 15 #[.agg #[.slice bp ns.length cap]] w (RetShW ns w):=by
 have hc:=fun w' (h:Below w.heap.size w w') => to_nodesW ns hlen hnum bp nb no cap w' (hns.keep h)
 clear hns hnum
 go_enter Tryz.func15,Tryz.ntmps15
 go_wp2_with fail
 have Wb:Below w.heap.size w (((w.alloc (.cells #[.slice bp ns.length cap] 24)).alloc (.cells #[.slice none 0 0] 36)).alloc (.cells #[.slice none 0 0] 36)):=(by repeat' (first | exact Below.refl _ _ | exact Nat.le_refl _ | refine below_drewN ?_ _ | refine Below.alloc ?_ (by simp <;> omega) _ | refine Below.setCell ?_ (by simp <;> omega) _ | refine below_step ?_ (by assumption)))

 have hkept:Kept [(⟨w.heap.size + 1,0,none⟩,.slice none 0 0),(⟨w.heap.size + 1 + 1,0,none⟩,.slice none 0 0)] [⟨w.heap.size + 1,0,none⟩,⟨w.heap.size + 1 + 1,0,none⟩] (((w.alloc (.cells #[.slice bp ns.length cap] 24)).alloc (.cells #[.slice none 0 0] 36)).alloc (.cells #[.slice none 0 0] 36)):=by
  simp only [Kept,ka,kb,kc,kd,ke,kfa,kga];(first | (go_simp;done) | (simp [World.cell?,World.frozen?,World.alloc,Array.getElem?_push];done))
 have hWs:(((w.alloc (.cells #[.slice bp ns.length cap] 24)).alloc (.cells #[.slice none 0 0] 36)).alloc (.cells #[.slice none 0 0] 36)).heap.size = w.heap.size + 1 + 1 + 1:=by simp
 generalize ((w.alloc (.cells #[.slice bp ns.length cap] 24)).alloc (.cells #[.slice none 0 0] 36)).alloc (.cells #[.slice none 0 0] 36) = W at *
 refine (hc _ Wb).mono ?_
 rintro _ w2 ⟨G,rfl,hnew,hG,hb2,hgz,hfr⟩
 have hF:=Lib.hid hfr
 have hZ:=Lib.hid hgz
 clear hfr hgz
 have W2b:=below_step Wb hb2
 have hkept2:=keep hkept hb2
 have hK:=hkept2
 simp only [Kept,ka,kb,kc,kd,ke,kfa,kga] at hK
 have hGs:w.heap.size + 1 + 1 < G:=by omega
 have hH:=Lib.hid hnew
 clear hc hkept hb2 Wb hnew hkept2 hG hWs
 obtain ⟨hK1,hK2⟩:=hK
 go_wp2_with fail
 refine bodyPost_ret (v:=.agg #[.slice (some ⟨G,0,none⟩) ns.length ns.length]) (by simp [results,Tryz.results15,go_sem,hK1,hK2]) rfl ⟨G,rfl,fun i hi => ⟨?_,?_⟩,by omega,?_,?_,fun o => ?_⟩
 ·exact ((hH.out i hi).1.far _ (by show w.heap.size + 1 + 1 < G;omega) _).far _ (by show w.heap.size + 1 < G;omega) _
 ·exact ((hH.out i hi).2.far _ (by show w.heap.size + 1 + 1 < G;omega) _).far _ (by show w.heap.size + 1 < G;omega) _
 ·exact (W2b.setCell (by show w.heap.size ≤ w.heap.size + 1 + 1;omega) _).setCell (by exact Nat.le_succ _) _
 ·simpa [World.setCell] using hZ.out
 ·simp only [World.frozen?_setCell]
  exact hF.out o

set_option maxRecDepth 100000 in
set_option maxHeartbeats 2000000 in
theorem mark_floats (n g:Nat) (k:Int) (w:World) (hn:n ≤ 1048576) (hk:0 ≤ k ∧ k ≤ 1000000000000000) (hc:Cells g n w) (hf:∀ o,w.frozen? ⟨g,o,none⟩ = false) :
  Calls Tryz.prog 140 #[.slice (some ⟨g,0,none⟩) n n,.int .i64 k] w (fun e w' => e = .returned (.int .i64 (k + (n:Int))) ∧ Mid g (g + 1) w w' ∧ (∀ b i,(∃ v,w.cell? ⟨b,i,none⟩ = some v) → ∃ v,w'.cell? ⟨b,i,none⟩ = some v) ∧ ∀ b o,w'.frozen? ⟨b,o,none⟩ = w.frozen? ⟨b,o,none⟩):=by
 obtain ⟨k0,k1⟩:=hk
 have hnI:(n:Int) ≤ 9223372036854775807:=by omega
 go_enter Tryz.func140,Tryz.ntmps140
 go_wp2_with fail
 go_loopw [1,5] (fun q i wr => ∃ (m:Nat),m ≤ n ∧ i = .int .i64 (m:Int) ∧ q = .int .i64 (k + (m:Int)) ∧ Mid g (g + 1) w wr ∧ (∀ b i,(∃ v,w.cell? ⟨b,i,none⟩ = some v) → ∃ v,wr.cell? ⟨b,i,none⟩ = some v) ∧ ∀ b o,wr.frozen? ⟨b,o,none⟩ = w.frozen? ⟨b,o,none⟩) (fun _ i _ => n - (intOf i).toNat)
 case atStart => exact ⟨0,by omega,rfl,by simp,Mid.refl ..,fun _ _ h => h,fun _ _ => rfl⟩
 case round =>
  obtain ⟨m,hm,rfl,rfl,hmid,hcr,hfr⟩:=hrel
  by_cases hlt:m < n
  ·have hlt':(m:Int) < (n:Int):=by omega
   have h0:(0:Int) ≤ (m:Int):=by omega
   obtain ⟨v0,q0⟩:=hcr _ _ (hc m hlt)
   have hz:wr.frozen? ⟨g,m,none⟩ = false:=by rw [hfr];exact hf m
   have hC:=Lib.hid hcr
   have hM:=Lib.hid hmid
   have hR:=Lib.hid hfr
   clear hcr hmid hfr hc hf
   go_wp2_with fail
   have hE:k + (m:Int) + 1 = k + ((m + 1:Nat):Int):=by omega
   exact ⟨⟨m + 1,by omega,by simp,by rw [hE],hM.out.set (p:=⟨g,_,none⟩) ⟨Nat.le_refl _,Nat.lt_succ_self _⟩ _,fun b i h => some_set (hC.out b i h),fun b o => by rw [World.frozen?_setCell];exact hR.out b o⟩,by simp [intOf];omega⟩
  ·obtain rfl:m = n:=by omega
   have hC:=Lib.hid hcr
   have hM:=Lib.hid hmid
   have hR:=Lib.hid hfr
   clear hcr hmid hfr hc hf
   go_wp2_with fail
   go_ret
   exact ⟨rfl,hM.out,hC.out,hR.out⟩
end Go.Proofs.YtbiacfkiakddiaaGreat

namespace Go.Proofs.YtbiacfkiakddiaaGreat
open Go.RowKit Go.Fl
theorem NodeM.mid {G o hi g:Nat} {w w':World} (h:NodeM G o hi w) (hm:Mid g (g + 1) w w') (hg:G < g) (hc:∀ b i,(∃ v,w.cell? ⟨b,i,none⟩ = some v) → ∃ v,w'.cell? ⟨b,i,none⟩ = some v) (hf:∀ b i,w'.frozen? ⟨b,i,none⟩ = w.frozen? ⟨b,i,none⟩):NodeM G o hi w':=by
 obtain ⟨h1,h2,h3,q,n,h4,h5,h6,h7,h8,h9⟩:=h
 exact ⟨hc _ _ h1,hc _ _ h2,hc _ _ h3,q,n,h4,h5,h6,by
  have:w'.heap[G]? = w.heap[G]?:=hm.low.block G hg
  simp only [World.cell?] at h7 ⊢
  rw [this];exact h7,fun i hi => hc _ _ (h8 i hi),fun i => by rw [hf];exact h9 i⟩
end Go.Proofs.YtbiacfkiakddiaaGreat

namespace Go.Proofs.YtbiacfkiakddiaaGreat
open Go.RowKit Go.Fl
theorem Mid.widen {lo hi lo' hi':Nat} {w w':World} (h:Mid lo hi w w') (h1:lo' ≤ lo) (h2:hi ≤ hi'):Mid lo' hi' w w':=⟨h.low.mono h1,h.size,fun b hb => h.high b (Nat.le_trans h2 hb)⟩

set_option maxRecDepth 100000 in
set_option maxHeartbeats 4000000 in
theorem mark_nodesB (m:Nat) (hm:m ≤ 1048576) (G hi:Nat) (k:Int) (hk:0 ≤ k ∧ k ≤ 10) (w:World) (h:∀ i,i < m → NodeM G (i * 4) hi w) (hf:∀ o,w.frozen? ⟨G,o,none⟩ = false) :
  Calls Tryz.prog 70 #[.slice (some ⟨G,0,none⟩) m m,.int .i64 k] w (fun e w' => ∃ k',e = .returned (.int .i64 k') ∧ 0 ≤ k' ∧ Mid G hi w w' ∧ k' ≤ 2000000000000):=by
 obtain ⟨k0,k1⟩:=hk
 have hnI:(m:Int) ≤ 9223372036854775807:=by omega
 go_enter Tryz.func70,Tryz.ntmps70
 go_wp2_with fail
 go_loopw [1,5] (fun q i wr => ∃ (j:Nat) (z:Int),j ≤ m ∧ i = .int .i64 (j:Int) ∧ q = .int .i64 z ∧ 0 ≤ z ∧ z ≤ 10 + (j:Int) * 1048579 ∧ Mid G hi w wr ∧ (∀ i,i < m → NodeM G (i * 4) hi wr) ∧ ∀ o,wr.frozen? ⟨G,o,none⟩ = false) (fun _ i _ => m - (intOf i).toNat)
 case atStart => exact ⟨0,k,by omega,rfl,rfl,k0,by omega,Mid.refl ..,h,hf⟩
 case round =>
  obtain ⟨j,z,hj,rfl,rfl,z0,z1,hmid,hn,hfz⟩:=hrel
  clear h hf
  by_cases hlt:j < m
  ·have hlt':(j:Int) < (m:Int):=by omega
   have h0:(0:Int) ≤ (j:Int):=by omega
   obtain ⟨⟨a0,c0⟩,⟨a1,c1⟩,⟨a2,c2⟩,g,n,h4,h5,h6,h7,h8,h9⟩:=hn j hlt
   have hN:=Lib.hid hn
   have hM:=Lib.hid hmid
   have hF:=Lib.hid hfz
   clear hn hmid h8 h9 h7
   go_upto_region 10 with fail
   have hN3:∀ i,i < m → NodeM G (i * 4) hi (((wr.setCell ⟨G,j * 4,none⟩ (.int .i64 z)).setCell ⟨G,j * 4 + 1,none⟩ (.int .i64 (z + 1))).setCell ⟨G,j * 4 + 2,none⟩ (.int .i64 (z + 1 + 1))):=fun i hi => (((hN.out i hi).set (j * 4) (by omega) _).set (j * 4 + 1) (by omega) _).set (j * 4 + 2) (by omega) _
   have hM3:Mid G hi w (((wr.setCell ⟨G,j * 4,none⟩ (.int .i64 z)).setCell ⟨G,j * 4 + 1,none⟩ (.int .i64 (z + 1))).setCell ⟨G,j * 4 + 2,none⟩ (.int .i64 (z + 1 + 1))):=((hM.out.set (p:=⟨G,j * 4,none⟩) ⟨Nat.le_refl _,by show G < hi;omega⟩ _).set (p:=⟨G,j * 4 + 1,none⟩) ⟨Nat.le_refl _,by show G < hi;omega⟩ _).set (p:=⟨G,j * 4 + 2,none⟩) ⟨Nat.le_refl _,by show G < hi;omega⟩ _
   have hF3:∀ o,(((wr.setCell ⟨G,j * 4,none⟩ (.int .i64 z)).setCell ⟨G,j * 4 + 1,none⟩ (.int .i64 (z + 1))).setCell ⟨G,j * 4 + 2,none⟩ (.int .i64 (z + 1 + 1))).frozen? ⟨G,o,none⟩ = false:=fun o => by simp only [World.frozen?_setCell];exact hF.out o
   clear hN hM hF hfz c0 c1 c2 h4 h5 h6
   generalize ((wr.setCell ⟨G,j * 4,none⟩ (.int .i64 z)).setCell ⟨G,j * 4 + 1,none⟩ (.int .i64 (z + 1))).setCell ⟨G,j * 4 + 2,none⟩ (.int .i64 (z + 1 + 1)) = w3 at *
   obtain ⟨_,_,_,g,n,h4,h5,h6,h7,h8,h9⟩:=hN3 j hlt
   have hmf:=mark_floats n g (z + 1 + 1 + 1) w3 h6 ⟨by omega,by omega⟩ h8 h9
   have hN:=Lib.hid hN3
   have hM:=Lib.hid hM3
   have hF:=Lib.hid hF3
   clear hN3 hM3 hF3 h8 h9
   go_wp2_with (go_at_call 140;refine hmf.mono ?_;rintro _ w4 ⟨rfl,hm4,hc4,hf4⟩;replace hm4:=Lib.hid hm4;replace hc4:=Lib.hid hc4;replace hf4:=Lib.hid hf4)
   exact ⟨⟨j + 1,z + 1 + 1 + 1 + (n:Int),by omega,by simp,rfl,by omega,by omega,hM.out.trans (hm4.out.widen (by omega) (by omega)),fun i hi => (hN.out i hi).mid hm4.out h4 hc4.out hf4.out,fun o => by rw [hf4.out];exact hF.out o⟩,by simp [intOf];omega⟩
  ·obtain rfl:j = m:=by omega
   have hM:=Lib.hid hmid
   clear hn hmid hfz
   go_wp2_with fail
   go_ret
   exact ⟨z,rfl,z0,hM.out,by omega⟩
end Go.Proofs.YtbiacfkiakddiaaGreat

namespace Go.Proofs.YtbiacfkiakddiaaGreat
open Go.RowKit Go.Fl
theorem shw_new {ns:List PN} (hn:∀ n ∈ ns,(n.nums.length:Int) ≤ 1048576) {G:Nat} {w:World} (h:∀ i (h:i < ns.length),NodeNew ns[i] G (0 + i * 4) w ∧ NumFree G (0 + i * 4) w) (hG:G < w.heap.size) (hf:∀ o,w.frozen? ⟨G,o,none⟩ = false):ShW ns.length G w.heap.size w :=
 ⟨hG,fun i hi => by
  obtain ⟨hN,hF⟩:=h i hi
  rw [Nat.zero_add] at hN hF
  obtain ⟨g,hg,hs,hc⟩:=hN.nums
  obtain ⟨g',n',m',hg',hs',hlt,hz⟩:=hF
  rw [hs] at hs'
  injection hs' with hs';injection hs' with e1 e2 e3;injection e1 with e1;injection e1 with e1
  subst e1
  exact ⟨⟨_,hN.kind⟩,⟨_,hN.a⟩,⟨_,hN.b⟩,g,_,hg,hlt,by have:=hn _ (List.getElem_mem hi);omega,hs,fun j hj => ⟨_,by have:=hc j hj;rw [Nat.zero_add] at this;exact this⟩,hz⟩,hf⟩

/-- Of the blocks that were there,only those from lo on,before hi,may have been written. -/
structure Mrk (lo hi:Nat) (w w':World):Prop where
 low:Below lo w w'
 high:∀ b,hi ≤ b → b < w.heap.size → w'.heap[b]? = w.heap[b]?

set_option maxRecDepth 100000 in
set_option maxHeartbeats 2000000 in
theorem mark_shapeB (n:Nat) (hn:n ≤ 1048576) (G hi:Nat) (k:Int) (hk:0 ≤ k ∧ k ≤ 10) (w:World) (h:ShW n G hi w) (hG:G < w.heap.size) (hh:hi ≤ w.heap.size) :
  Calls Tryz.prog 20 #[.agg #[.slice (some ⟨G,0,none⟩) n n],.int .i64 k] w (fun e w' => ∃ k',e = .returned (.int .i64 k') ∧ 0 ≤ k' ∧ Mrk G hi w w' ∧ k' ≤ 2000000000000):=by
 have Wb:Below w.heap.size w (w.alloc (.cells #[.slice (some ⟨G,0,none⟩) n n] 36)):=(Below.refl _ _).alloc (Nat.le_refl _) _
 have h1:=h.keep Wb hh
 have hc:=mark_nodesB n hn G hi k hk (w.alloc (.cells #[.slice (some ⟨G,0,none⟩) n n] 36)) h1.2.1 h1.2.2
 clear h1 h
 go_enter Tryz.func20,Tryz.ntmps20
 go_wp2_with (go_at_call 70;refine hc.mono ?_;rintro _ w2 ⟨k',rfl,hk',hm,hk2⟩;replace hm:=Lib.hid hm)
 go_ret
 exact ⟨k',rfl,hk',⟨((Below.refl _ _).alloc (Nat.le_of_lt hG) _).trans hm.out.low,fun b hb hlt => (hm.out.high b hb).trans (Wb.block b hlt)⟩,hk2⟩
end Go.Proofs.YtbiacfkiakddiaaGreat

namespace Go.Proofs.YtbiacfkiakddiaaGreat
open Go.RowKit Go.Fl
theorem row_mrk {w w':World} {lo G hi:Nat} {e:TypeId} {size n:Nat} {v:Value} {xs:List Value} (h:w.ownsRow lo e size v n xs) (hm:Mrk G hi w w') (hl:hi ≤ lo):w'.ownsRow lo e size v n xs:=by
 obtain ⟨h1,h2 | ⟨g,cap,cur,hv,hb,hg,r⟩⟩:=h
 ·exact ⟨h1,.inl h2⟩
 ·exact ⟨h1,.inr ⟨g,cap,cur,hv,hb,by rw [hm.high g (Nat.le_trans hl hb) (Array.getElem?_eq_some_iff.1 hg).1];exact hg,r⟩⟩
end Go.Proofs.YtbiacfkiakddiaaGreat

namespace Go.Proofs.YtbiacfkiakddiaaGreat
open Go.RowKit Go.Fl
theorem wid_eq {x y u v:Nat} (hu:cn .f64 u = wid (cn .f32 x)) (hv:cn .f64 v = wid (cn .f32 y)) (h:cn .f32 x = cn .f32 y):cn .f64 u = cn .f64 v:=by rw [hu,hv,h]

set_option maxRecDepth 100000 in
set_option maxHeartbeats 2000000 in
theorem eq_march (a b:Nat) (n:Int) (w:World) :
  Calls Tryz.prog 107 #[MarV a b n,MarV a b n] w (fun e w' => e = .returned (.bool true) ∧ Below w.heap.size w w'):=by
 go_enter Tryz.func107,Tryz.ntmps107
 go_upto_region 1 with fail
 generalize hW:(w.alloc (.cells #[F1 a,F1 b,.int .i64 n] 84)).alloc (.cells #[F1 a,F1 b,.int .i64 n] 84) = W1 at *
 have W1b:Below w.heap.size w W1:=by subst hW;exact (by repeat' (first | exact Below.refl _ _ | exact Nat.le_refl _ | refine below_drewN ?_ _ | refine Below.alloc ?_ (by simp <;> omega) _ | refine Below.setCell ?_ (by simp <;> omega) _ | refine below_step ?_ (by assumption)))
 have hkept:Kept [(⟨w.heap.size,0,none⟩,F1 a),(⟨w.heap.size,1,none⟩,F1 b),(⟨w.heap.size,2,none⟩,.int .i64 n),(⟨w.heap.size + 1,0,none⟩,F1 a),(⟨w.heap.size + 1,1,none⟩,F1 b),(⟨w.heap.size + 1,2,none⟩,.int .i64 n)] [] W1:=by
  subst hW;simp only [Kept,ka,kb,kc,kd,ke,kfa,kga];(first | (go_simp;done) | (simp [World.cell?,World.frozen?,World.alloc,Array.getElem?_push];done))
 clear hW
 have hK:=hkept;simp only [Kept,ka,kb,kc,kd,ke,kfa,kga] at hK
 go_wp2_with (first
  | (refine wp_wid rfl _ _ _ rfl _ rfl ?_ ?_ fitsW_all ?_;exact some_f32;exact Tryz.underlying89;intro r n hr)
  | (go_at_call 47;refine (same_float _ _ (wid_eq (by assumption) (by assumption) rfl) _).mono ?_;rintro _ w6 ⟨rfl,hb1⟩;have W1b:=below_step (below_drewN W1b _) hb1;have hkept:=keepT hkept hb1 rfl;clear hK;have hK:=hkept;simp only [Kept,ka,kb,kc,kd,ke,kfa,kga] at hK))
 go_ret
 exact ⟨rfl,W1b⟩

set_option maxRecDepth 100000 in
set_option maxHeartbeats 2000000 in
theorem eq_camera (a b c d e f wd:Nat) (nx ny:Int) (w:World) :
  Calls Tryz.prog 106 #[CamV a b c d e f wd nx ny,CamV a b c d e f wd nx ny] w (fun e w' => e = .returned (.bool true) ∧ Below w.heap.size w w'):=by
 go_enter Tryz.func106,Tryz.ntmps106
 go_upto_region 1 with fail
 generalize hW:(w.alloc (.cells #[F1 a,F1 b,F1 c,F1 d,F1 e,F1 f,F1 wd,.int .i64 nx,.int .i64 ny] 83)).alloc (.cells #[F1 a,F1 b,F1 c,F1 d,F1 e,F1 f,F1 wd,.int .i64 nx,.int .i64 ny] 83) = W1 at *
 have W1b:Below w.heap.size w W1:=by subst hW;exact (by repeat' (first | exact Below.refl _ _ | exact Nat.le_refl _ | refine below_drewN ?_ _ | refine Below.alloc ?_ (by simp <;> omega) _ | refine Below.setCell ?_ (by simp <;> omega) _ | refine below_step ?_ (by assumption)))
 have hkept:Kept [(⟨w.heap.size,0,none⟩,F1 a),(⟨w.heap.size,1,none⟩,F1 b),(⟨w.heap.size,2,none⟩,F1 c),(⟨w.heap.size,3,none⟩,F1 d),(⟨w.heap.size,4,none⟩,F1 e),(⟨w.heap.size,5,none⟩,F1 f),(⟨w.heap.size,6,none⟩,F1 wd),(⟨w.heap.size,7,none⟩,.int .i64 nx),(⟨w.heap.size,8,none⟩,.int .i64 ny),(⟨w.heap.size + 1,0,none⟩,F1 a),(⟨w.heap.size + 1,1,none⟩,F1 b),(⟨w.heap.size + 1,2,none⟩,F1 c),(⟨w.heap.size + 1,3,none⟩,F1 d),(⟨w.heap.size + 1,4,none⟩,F1 e),(⟨w.heap.size + 1,5,none⟩,F1 f),(⟨w.heap.size + 1,6,none⟩,F1 wd),(⟨w.heap.size + 1,7,none⟩,.int .i64 nx),(⟨w.heap.size + 1,8,none⟩,.int .i64 ny)] [] W1:=by
  subst hW;simp only [Kept,ka,kb,kc,kd,ke,kfa,kga];(first | (go_simp;done) | (simp [World.cell?,World.frozen?,World.alloc,Array.getElem?_push];done))
 clear hW
 have hK:=hkept;simp only [Kept,ka,kb,kc,kd,ke,kfa,kga] at hK
 have t1:True:=trivial
 go_wp2_with (first
  | (clear t1;go_at_call 86;refine (eq_vector a b c a b c rfl rfl rfl _).mono ?_;rintro _ w5 ⟨rfl,hb1⟩;have W1b:=below_step W1b hb1;have hkept:=keepT hkept hb1 rfl;clear hK;have hK:=hkept;simp only [Kept,ka,kb,kc,kd,ke,kfa,kga] at hK)
  | (go_at_call 86;refine (eq_vector d e f d e f rfl rfl rfl _).mono ?_;rintro _ w5 ⟨rfl,hb1⟩;have W1b:=below_step W1b hb1;have hkept:=keepT hkept hb1 rfl;clear hK;have hK:=hkept;simp only [Kept,ka,kb,kc,kd,ke,kfa,kga] at hK)
  | (refine wp_wid rfl _ _ _ rfl _ rfl ?_ ?_ fitsW_all ?_;exact some_f32;exact Tryz.underlying89;intro r n hr)
  | (go_at_call 47;refine (same_float _ _ (wid_eq (by assumption) (by assumption) rfl) _).mono ?_;rintro _ w6 ⟨rfl,hb1⟩;have W1b:=below_step (below_drewN W1b _) hb1;have hkept:=keepT hkept hb1 rfl;clear hK;have hK:=hkept;simp only [Kept,ka,kb,kc,kd,ke,kfa,kga] at hK))
 go_ret
 exact ⟨rfl,W1b⟩


set_option maxRecDepth 100000 in
set_option maxHeartbeats 4000000 in
theorem eq_view (ns:List PN) (G H a b c d e f wd:Nat) (nx ny:Int) (lx ly lz near most:Nat) (n:Int) (w:World)
  (heq:∀ w',Below w.heap.size w w' → Calls Tryz.prog 19 #[.agg #[.slice (some ⟨G,0,none⟩) ns.length ns.length],.agg #[.slice (some ⟨H,0,none⟩) ns.length ns.length]] w' (fun e w'' => e = .returned (.bool true) ∧ Below w'.heap.size w' w'')) :
  Calls Tryz.prog 48 #[.agg #[.slice (some ⟨G,0,none⟩) ns.length ns.length,F1 a,F1 b,F1 c,F1 d,F1 e,F1 f,F1 wd,.int .i64 nx,.int .i64 ny,F1 lx,F1 ly,F1 lz,F1 near,F1 most,.int .i64 n],.agg #[.slice (some ⟨H,0,none⟩) ns.length ns.length,F1 a,F1 b,F1 c,F1 d,F1 e,F1 f,F1 wd,.int .i64 nx,.int .i64 ny,F1 lx,F1 ly,F1 lz,F1 near,F1 most,.int .i64 n]] w (fun e w' => e = .returned (.bool true) ∧ Below w.heap.size w w'):=by
 go_enter Tryz.func48,Tryz.ntmps48
 go_upto_region 1 with fail
 generalize hW:(w.alloc (.cells #[.slice (some ⟨G,0,none⟩) ns.length ns.length,F1 a,F1 b,F1 c,F1 d,F1 e,F1 f,F1 wd,.int .i64 nx,.int .i64 ny,F1 lx,F1 ly,F1 lz,F1 near,F1 most,.int .i64 n] 86)).alloc (.cells #[.slice (some ⟨H,0,none⟩) ns.length ns.length,F1 a,F1 b,F1 c,F1 d,F1 e,F1 f,F1 wd,.int .i64 nx,.int .i64 ny,F1 lx,F1 ly,F1 lz,F1 near,F1 most,.int .i64 n] 86) = W1 at *
 have W1b:Below w.heap.size w W1:=by subst hW;exact (by repeat' (first | exact Below.refl _ _ | exact Nat.le_refl _ | refine below_drewN ?_ _ | refine Below.alloc ?_ (by simp <;> omega) _ | refine Below.setCell ?_ (by simp <;> omega) _ | refine below_step ?_ (by assumption)))
 have hkept:Kept [(⟨w.heap.size,0,none⟩,.slice (some ⟨G,0,none⟩) ns.length ns.length),(⟨w.heap.size,1,none⟩,F1 a),(⟨w.heap.size,2,none⟩,F1 b),(⟨w.heap.size,3,none⟩,F1 c),(⟨w.heap.size,4,none⟩,F1 d),(⟨w.heap.size,5,none⟩,F1 e),(⟨w.heap.size,6,none⟩,F1 f),(⟨w.heap.size,7,none⟩,F1 wd),(⟨w.heap.size,8,none⟩,.int .i64 nx),(⟨w.heap.size,9,none⟩,.int .i64 ny),(⟨w.heap.size,10,none⟩,F1 lx),(⟨w.heap.size,11,none⟩,F1 ly),(⟨w.heap.size,12,none⟩,F1 lz),(⟨w.heap.size,13,none⟩,F1 near),(⟨w.heap.size,14,none⟩,F1 most),(⟨w.heap.size,15,none⟩,.int .i64 n),(⟨w.heap.size + 1,0,none⟩,.slice (some ⟨H,0,none⟩) ns.length ns.length),(⟨w.heap.size + 1,1,none⟩,F1 a),(⟨w.heap.size + 1,2,none⟩,F1 b),(⟨w.heap.size + 1,3,none⟩,F1 c),(⟨w.heap.size + 1,4,none⟩,F1 d),(⟨w.heap.size + 1,5,none⟩,F1 e),(⟨w.heap.size + 1,6,none⟩,F1 f),(⟨w.heap.size + 1,7,none⟩,F1 wd),(⟨w.heap.size + 1,8,none⟩,.int .i64 nx),(⟨w.heap.size + 1,9,none⟩,.int .i64 ny),(⟨w.heap.size + 1,10,none⟩,F1 lx),(⟨w.heap.size + 1,11,none⟩,F1 ly),(⟨w.heap.size + 1,12,none⟩,F1 lz),(⟨w.heap.size + 1,13,none⟩,F1 near),(⟨w.heap.size + 1,14,none⟩,F1 most),(⟨w.heap.size + 1,15,none⟩,.int .i64 n)] [] W1:=by
  subst hW;simp only [Kept,ka,kb,kc,kd,ke,kfa,kga];(first | (go_simp;done) | (simp [World.cell?,World.frozen?,World.alloc,Array.getElem?_push];done))
 clear hW
 have hK:=hkept;simp only [Kept,ka,kb,kc,kd,ke,kfa,kga] at hK
 go_wp2_with (first
  | (go_at_call 19;refine (heq _ W1b).mono ?_;rintro _ w5 ⟨rfl,hb1⟩;have W1b:=below_step W1b hb1;have hkept:=keepT hkept hb1 rfl;clear hK;have hK:=hkept;simp only [Kept,ka,kb,kc,kd,ke,kfa,kga] at hK)
  | (go_at_call 106;refine (eq_camera _ _ _ _ _ _ _ _ _ _).mono ?_;rintro _ w5 ⟨rfl,hb1⟩;have W1b:=below_step W1b hb1;have hkept:=keepT hkept hb1 rfl;clear hK;have hK:=hkept;simp only [Kept,ka,kb,kc,kd,ke,kfa,kga] at hK)
  | (go_at_call 86;refine (eq_vector lx ly lz lx ly lz rfl rfl rfl _).mono ?_;rintro _ w5 ⟨rfl,hb1⟩;have W1b:=below_step W1b hb1;have hkept:=keepT hkept hb1 rfl;clear hK;have hK:=hkept;simp only [Kept,ka,kb,kc,kd,ke,kfa,kga] at hK)
  | (go_at_call 107;refine (eq_march _ _ _ _).mono ?_;rintro _ w5 ⟨rfl,hb1⟩;have W1b:=below_step W1b hb1;have hkept:=keepT hkept hb1 rfl;clear hK;have hK:=hkept;simp only [Kept,ka,kb,kc,kd,ke,kfa,kga] at hK))
 go_ret
 exact ⟨rfl,W1b⟩

set_option maxRecDepth 100000 in
set_option maxHeartbeats 2000000 in
theorem sz_view (ns:List PN) (bp:Option Addr) (nb no cap a b c d e f wd:Nat) (nx ny:Int) (lx ly lz near most:Nat) (n:Int) (w:World) (hns:NodesIn ns bp nb no w) :
  Calls Tryz.prog 43 #[.agg #[.slice bp ns.length cap,F1 a,F1 b,F1 c,F1 d,F1 e,F1 f,F1 wd,.int .i64 nx,.int .i64 ny,F1 lx,F1 ly,F1 lz,F1 near,F1 most,.int .i64 n],.int .i64 1048576] w (fun e w' => e = .returned (.int .i64 (szS ns 1048576)) ∧ Below w.heap.size w w'):=by
 have hsz:∀ w',Below w.heap.size w w' → Calls Tryz.prog 13 #[.agg #[.slice bp ns.length cap],.int .i64 1048576] w' (fun e w'' => e = .returned (.int .i64 (szS ns 1048576)) ∧ Below w'.heap.size w' w'') :=
  fun w' hb => sz_shape ns bp nb no cap 1048576 w' (hns.keep hb) (by omega)
 clear hns
 by_cases hneg:szS ns 1048576 < 0
 ·have hm:=szS_neg hneg
  rw [hm] at hsz ⊢
  clear hm hneg
  go_enter Tryz.func43,Tryz.ntmps43
  go_upto_region 1 with fail
  generalize hW:w.alloc (.cells #[.slice bp ns.length cap,F1 a,F1 b,F1 c,F1 d,F1 e,F1 f,F1 wd,.int .i64 nx,.int .i64 ny,F1 lx,F1 ly,F1 lz,F1 near,F1 most,.int .i64 n] 78) = W1 at *
  have W1b:Below w.heap.size w W1:=by subst hW;exact (by repeat' (first | exact Below.refl _ _ | exact Nat.le_refl _ | refine below_drewN ?_ _ | refine Below.alloc ?_ (by simp <;> omega) _ | refine Below.setCell ?_ (by simp <;> omega) _ | refine below_step ?_ (by assumption)))
  have hkept:Kept [(⟨w.heap.size,0,none⟩,.slice bp ns.length cap),(⟨w.heap.size,1,none⟩,F1 a),(⟨w.heap.size,2,none⟩,F1 b),(⟨w.heap.size,3,none⟩,F1 c),(⟨w.heap.size,4,none⟩,F1 d),(⟨w.heap.size,5,none⟩,F1 e),(⟨w.heap.size,6,none⟩,F1 f),(⟨w.heap.size,7,none⟩,F1 wd),(⟨w.heap.size,8,none⟩,.int .i64 nx),(⟨w.heap.size,9,none⟩,.int .i64 ny),(⟨w.heap.size,10,none⟩,F1 lx),(⟨w.heap.size,11,none⟩,F1 ly),(⟨w.heap.size,12,none⟩,F1 lz),(⟨w.heap.size,13,none⟩,F1 near),(⟨w.heap.size,14,none⟩,F1 most),(⟨w.heap.size,15,none⟩,.int .i64 n)] [] W1:=by
   subst hW;simp only [Kept,ka,kb,kc,kd,ke,kfa,kga];(first | (go_simp;done) | (simp [World.cell?,World.frozen?,World.alloc,Array.getElem?_push];done))
  clear hW
  have hK:=hkept;simp only [Kept,ka,kb,kc,kd,ke,kfa,kga] at hK
  go_wp2_with (go_at_call 13;refine (hsz _ W1b).mono ?_;rintro _ w5 ⟨rfl,hb1⟩;have W1b:=below_step W1b hb1)
  go_ret
  exact ⟨rfl,W1b⟩
 ·have hp:0 ≤ szS ns 1048576:=by omega
  generalize szS ns 1048576 = sz at *
  go_enter Tryz.func43,Tryz.ntmps43
  go_upto_region 1 with fail
  generalize hW:w.alloc (.cells #[.slice bp ns.length cap,F1 a,F1 b,F1 c,F1 d,F1 e,F1 f,F1 wd,.int .i64 nx,.int .i64 ny,F1 lx,F1 ly,F1 lz,F1 near,F1 most,.int .i64 n] 78) = W1 at *
  have W1b:Below w.heap.size w W1:=by subst hW;exact (by repeat' (first | exact Below.refl _ _ | exact Nat.le_refl _ | refine below_drewN ?_ _ | refine Below.alloc ?_ (by simp <;> omega) _ | refine Below.setCell ?_ (by simp <;> omega) _ | refine below_step ?_ (by assumption)))
  have hkept:Kept [(⟨w.heap.size,0,none⟩,.slice bp ns.length cap),(⟨w.heap.size,1,none⟩,F1 a),(⟨w.heap.size,2,none⟩,F1 b),(⟨w.heap.size,3,none⟩,F1 c),(⟨w.heap.size,4,none⟩,F1 d),(⟨w.heap.size,5,none⟩,F1 e),(⟨w.heap.size,6,none⟩,F1 f),(⟨w.heap.size,7,none⟩,F1 wd),(⟨w.heap.size,8,none⟩,.int .i64 nx),(⟨w.heap.size,9,none⟩,.int .i64 ny),(⟨w.heap.size,10,none⟩,F1 lx),(⟨w.heap.size,11,none⟩,F1 ly),(⟨w.heap.size,12,none⟩,F1 lz),(⟨w.heap.size,13,none⟩,F1 near),(⟨w.heap.size,14,none⟩,F1 most),(⟨w.heap.size,15,none⟩,.int .i64 n)] [] W1:=by
   subst hW;simp only [Kept,ka,kb,kc,kd,ke,kfa,kga];(first | (go_simp;done) | (simp [World.cell?,World.frozen?,World.alloc,Array.getElem?_push];done))
  clear hW
  have hK:=hkept;simp only [Kept,ka,kb,kc,kd,ke,kfa,kga] at hK
  go_wp2_with (go_at_call 13;refine (hsz _ W1b).mono ?_;rintro _ w5 ⟨rfl,hb1⟩;have W1b:=below_step W1b hb1)
  go_ret
  exact ⟨rfl,W1b⟩
end Go.Proofs.YtbiacfkiakddiaaGreat

namespace Go.Proofs.YtbiacfkiakddiaaGreat
open Go.RowKit Go.Fl
theorem block_lt {w:World} {g:Nat} {o:Obj} (h:w.heap[g]? = some o):g < w.heap.size:=(Array.getElem?_eq_some_iff.1 h).1
theorem heap_new (w:World) (b:Obj):(w.alloc b).heap[w.heap.size]? = some b:=by show (w.heap.push _)[w.heap.size]? = _;simp
end Go.Proofs.YtbiacfkiakddiaaGreat
