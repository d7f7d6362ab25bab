/-
 Lemmas: S16a,X3,U1,U2,U3,U6,C4,U7,U8,U10.
-/
import Derived.Test.YtbiacfkiakddiaaGreatNbm
set_option linter.unusedVariables false
set_option linter.unusedSimpArgs false
namespace Go.Proofs.YtbiacfkiakddiaaGreat
open Go.RowKit Go.Fl
def atS (ns:List PN) (p:V):Nat:=(allS ns (runP ns p ns.length) ns.length).getD (ns.length - 1) 0

set_option maxRecDepth 100000 in
set_option maxHeartbeats 2000000 in
theorem s_at_any (ns:List PN) (hok:OkAll ns) (hl:1 ≤ ns.length ∧ ns.length ≤ 16) (sb so nb no cap x y z:Nat) (w:World) (hsh:ShapeIn ns sb so nb no cap w) :
  Calls Tryz.prog 80 #[.pointer (some ⟨sb,so,none⟩),V3 x y z] w (Ret .f32 (atS ns (cn .f32 x,cn .f32 y,cn .f32 z)) w):=by
 have hsb:sb < w.heap.size:=some_lt (a:=⟨sb,so,none⟩) (by rw [hsh.list];rfl)
 have hr1:(1:Int) ≤ (ns.length:Int):=by omega
 have hr2:(ns.length:Int) ≤ 16:=by omega
 have hr0:(0:Int) ≤ (ns.length:Int) - 1:=by omega
 have hr3:((ns.length:Int) - 1).toNat = ns.length - 1:=by omega
 go_enter Tryz.func80,Tryz.ntmps80
 go_wp2_with fail
 have W1b:Below w.heap.size w (w.alloc (.cells #[F1 x,F1 y,F1 z] 38)):=(by repeat' (first | exact Below.refl _ _ | exact Nat.le_refl _ | refine below_drewN ?_ _ | refine Below.alloc ?_ (by simp <;> omega) _ | refine Below.setCell ?_ (by simp <;> omega) _ | refine below_step ?_ (by assumption)))

 have hsh1:=hsh.keep W1b
 generalize w.alloc (.cells #[F1 x,F1 y,F1 z] 38) = W1 at *
 refine (s_all_any ns hok hl sb so nb no cap x y z W1 hsh1).mono ?_
 rintro _ w2 ⟨v,xs,rfl,hown,hxs,hb2⟩
 have W2b:=below_step W1b hb2
 obtain ⟨g,cap2,rfl,-,-⟩:=hown.form (by omega)
 have hlen:xs.length = ns.length:=by have:=hown.1;simpa using this
 have hc:=hown.cellAt (ns.length - 1) (by omega)
 rw [show (fl xs)[ns.length - 1]? = some (F1 (xs[ns.length - 1]'(by omega))) by simp [fl,List.getElem?_eq_getElem (show ns.length - 1 < xs.length by omega)]] at hc
 have hv:Hid (cn .f32 (xs[ns.length - 1]'(by omega)) = atS ns (cn .f32 x,cn .f32 y,cn .f32 z)):=by
  unfold Hid atS
  rw [← hxs,List.getD_eq_getElem?_getD,List.getElem?_map,List.getElem?_eq_getElem (show ns.length - 1 < xs.length by omega)];rfl
 generalize xs[ns.length - 1]'(by omega) = r at hc hv
 clear hxs hlen hown hb2 hsh1 W1b hsh
 go_wp2_with fail
 go_ret
 exact ⟨r,rfl,hv.out,W2b⟩

end Go.Proofs.YtbiacfkiakddiaaGreat

namespace Go.Proofs.YtbiacfkiakddiaaGreat
open Go.RowKit Go.Fl
def capS (x:Nat):Nat:=if gtk .f32 x (cn .f32 1065353216) then cn .f32 1065353216 else x

inductive PhiAs (ns:List PN) (f:Nat):FuncId → Array Value → Value → Prop
 | scale (x y z a b c:Nat) (h1:cn .f32 a = B .mul (cn .f32 x) (cn .f32 f)) (h2:cn .f32 b = B .mul (cn .f32 y) (cn .f32 f)) (h3:cn .f32 c = B .mul (cn .f32 z) (cn .f32 f)):PhiAs ns f 229 #[V3 x y z,F1 f] (V3 a b c)
 | add (x y z x' y' z' a b c:Nat) (h1:cn .f32 a = B .add (cn .f32 x) (cn .f32 x')) (h2:cn .f32 b = B .add (cn .f32 y) (cn .f32 y')) (h3:cn .f32 c = B .add (cn .f32 z) (cn .f32 z')):PhiAs ns f 228 #[V3 x y z,V3 x' y' z'] (V3 a b c)
 | at_ (sa:Addr) (x y z r:Nat) (h:cn .f32 r = atS ns (cn .f32 x,cn .f32 y,cn .f32 z)):PhiAs ns f 80 #[.pointer (some sa),V3 x y z] (F1 r)

set_option maxRecDepth 100000 in
set_option maxHeartbeats 4000000 in
theorem s_ambient_any (ns:List PN) (hok:OkAll ns) (hl:1 ≤ ns.length ∧ ns.length ≤ 16) (sb so nb no cap x y z nx ny nz st:Nat) (k:Nat) (hk:k ≤ 8) (w:World) (hsh:ShapeIn ns sb so nb no cap w) :
  Calls Tryz.prog 169 #[.pointer (some ⟨sb,so,none⟩),V3 x y z,V3 nx ny nz,F1 st,.int .i64 (k:Int)] w (Ret .f32 (ambAll (atS ns) capS (cn .f32 x,cn .f32 y,cn .f32 z) (cn .f32 nx,cn .f32 ny,cn .f32 nz) (cn .f32 st) k) w):=by
 obtain ⟨R,hR⟩:∃ R,Hid (R = ambGo (atS ns) capS (cn .f32 x,cn .f32 y,cn .f32 z) (cn .f32 nx,cn .f32 ny,cn .f32 nz) (cn .f32 st) k 1 0):=⟨_,rfl⟩
 rw [ambAll,← hR.out]
 have hsb:sb < w.heap.size:=some_lt (a:=⟨sb,so,none⟩) (by rw [hsh.list];rfl)
 have hat:∀ (x y z:Nat) (w:World),ShapeIn ns sb so nb no cap w → Calls Tryz.prog 80 #[.pointer (some ⟨sb,so,none⟩),V3 x y z] w (Ret .f32 (atS ns (cn .f32 x,cn .f32 y,cn .f32 z)) w):=fun x y z w h => s_at_any ns hok hl sb so nb no cap x y z w h
 go_enter Tryz.func169,Tryz.ntmps169
 go_wp2_with fail
 have W1b:Below w.heap.size w ((w.alloc (.cells #[F1 x,F1 y,F1 z] 38)).alloc (.cells #[F1 nx,F1 ny,F1 nz] 38)):=(by repeat' (first | exact Below.refl _ _ | exact Nat.le_refl _ | refine below_drewN ?_ _ | refine Below.alloc ?_ (by simp <;> omega) _ | refine Below.setCell ?_ (by simp <;> omega) _ | refine below_step ?_ (by assumption)))

 have hkept:Kept [(⟨w.heap.size,0,none⟩,F1 x),(⟨w.heap.size,1,none⟩,F1 y),(⟨w.heap.size,2,none⟩,F1 z),(⟨w.heap.size + 1,0,none⟩,F1 nx),(⟨w.heap.size + 1,1,none⟩,F1 ny),(⟨w.heap.size + 1,2,none⟩,F1 nz)] [] ((w.alloc (.cells #[F1 x,F1 y,F1 z] 38)).alloc (.cells #[F1 nx,F1 ny,F1 nz] 38)):=by
  simp only [Kept,ka,kb,kc,kd,ke,and_true,true_and]
  simp
 generalize (w.alloc (.cells #[F1 x,F1 y,F1 z] 38)).alloc (.cells #[F1 nx,F1 ny,F1 nz] 38) = W1 at *
 have hsh1:=hsh.keep W1b
 clear hsh hok
 go_loopw [11,12] (fun s i wr => ∃ (j sm:Nat),1 ≤ j ∧ j ≤ k + 1 ∧ i = .int .i64 (j:Int) ∧ s = F1 sm ∧ Hid (R = ambGo (atS ns) capS (cn .f32 x,cn .f32 y,cn .f32 z) (cn .f32 nx,cn .f32 ny,cn .f32 nz) (cn .f32 st) (k + 1 - j) j (cn .f32 sm)) ∧ Below W1.heap.size W1 wr) (fun _ i _ => 10 - (intOf i).toNat)
 case atStart => exact ⟨1,0,by omega,by omega,rfl,rfl,by unfold Hid;rw [hR.out,cn_zero];rfl,Below.refl _ _⟩
 case round =>
  obtain ⟨j,sm,hj1,hjk,rfl,rfl,hgo,Wb⟩:=hrel
  have hkr:=keep hkept Wb
  have hshr:=hsh1.keep Wb
  clear hkept hsh1 hR
  by_cases hle:j ≤ k
  ·have hle':(j:Int) ≤ (k:Int):=by omega
   have hj9:(j:Int) ≤ 8:=by omega
   have hgo2:Hid (R = ambGo (atS ns) capS (cn .f32 x,cn .f32 y,cn .f32 z) (cn .f32 nx,cn .f32 ny,cn .f32 nz) (cn .f32 st) (k - j) (j + 1) (B .add (cn .f32 sm) (capS (ambX (atS ns (addV (cn .f32 x,cn .f32 y,cn .f32 z) (scaleV (cn .f32 nx,cn .f32 ny,cn .f32 nz) (B .mul (kf j) (cn .f32 st))))) (B .mul (kf j) (cn .f32 st)))))):=by
    have:=hgo.out
    rw [show k + 1 - j = (k - j) + 1 by omega,ambGo] at this
    exact this
   clear hgo
   go_upto_region 6 with (refine wp_bin rfl _ _ _ _ _ rfl _ _ _ rfl rfl rfl ?_;intro f1 n1 hf1)
   have hb1:Below wr.heap.size wr (wr.drewN n1):=below_drewN (Below.refl _ _) n1
   have hkept:=keep hkr hb1
   have hsh2:=hshr.keep hb1
   have W2b:=below_step Wb hb1
   clear hkr hshr Wb hb1
   generalize wr.drewN n1 = w1 at *
   refine Qr.wp_below_all (by kernel_rfl) (by kernel_rfl) (PhiAs ns f1) ?_
   repeat (first | (refine Qr.walk_plain rfl fun K hK => ?_;apply Qr.one_det;(focus (intro w' hw';have HK:=keep hkept hw';simp only [Kept,ka,kb,kc,kd,ke,and_true,true_and] at HK;go_simp;first | done | rfl));go_simp;refine hK _ ?_;clear hK K) | (refine Qr.walk_plain rfl fun K hK => ?_;apply Qr.one_call;(focus (intro w' hw';go_simp;first | done | exact ⟨rfl,rfl⟩));(focus (intro w' hw'; go_at_call 229;refine (s_scale_any _ _ _ _ _).mono ?_;rintro _ w3 ⟨r1,r2,r3,rfl,hr1,hr2,hr3,hb1⟩ ;exact ⟨_,rfl,by constructor <;> assumption,below_step hw' (by assumption),by assumption⟩));intro v hv;cases hv;go_simp;refine hK _ ?_;clear hK K) | (refine Qr.walk_plain rfl fun K hK => ?_;apply Qr.one_call;(focus (intro w' hw';go_simp;first | done | exact ⟨rfl,rfl⟩));(focus (intro w' hw'; go_at_call 228;refine (s_add_any _ _ _ _ _ _ _).mono ?_;rintro _ w3 ⟨r1,r2,r3,rfl,hr1,hr2,hr3,hb1⟩ ;exact ⟨_,rfl,by constructor <;> assumption,below_step hw' (by assumption),by assumption⟩));intro v hv;cases hv;go_simp;refine hK _ ?_;clear hK K) | (refine Qr.walk_plain rfl fun K hK => ?_;apply Qr.one_call;(focus (intro w' hw';go_simp;first | done | exact ⟨rfl,rfl⟩));(focus (intro w' hw'; go_at_call 80;refine (hat _ _ _ _ (hsh2.keep hw')).mono ?_;rintro _ w3 ⟨r1,rfl,hr1,hb1⟩ ;exact ⟨_,rfl,by constructor <;> assumption,below_step hw' (by assumption),by assumption⟩));intro v hv;cases hv;go_simp;refine hK _ ?_;clear hK K))
   rename_i a1 b1 c1 g1 g2 g3 a2 b2 c2 g4 g5 g6 d1 hd1
   refine Qr.walk_nil fun w5 hw5 => ?_
   have hfin:Hid (R = ambGo (atS ns) capS (cn .f32 x,cn .f32 y,cn .f32 z) (cn .f32 nx,cn .f32 ny,cn .f32 nz) (cn .f32 st) (k - j) (j + 1) (B .add (cn .f32 sm) (capS (ambX (cn .f32 d1) (cn .f32 f1))))):=by
    unfold Hid
    rw [hgo2.out,hd1,g4,g5,g6,g1,g2,g3,hf1]
    rfl
   clear hgo2 hd1 g4 g5 g6 g1 g2 g3 hf1
   have W5b:=below_step W2b hw5
   clear hkept hw5 W2b hsh2
   go_wp2_with ((refine wp_bin rfl _ _ _ _ _ rfl _ _ _ rfl rfl rfl ?_;intro r n hr))
   all_goals
    rename_i rs ms hrs rq mq hrq hb hc
    have e1:B .sub (cn .f32 f1) (cn .f32 d1) = cn .f32 rs:=hrs.symm
    have e2:B .quo (cn .f32 rs) (cn .f32 f1) = cn .f32 rq:=hrq.symm
    have hcc:=(gtk_cn .f32 _ _).trans hc
   ·have hg:gek .f32 (cn .f32 rq) 0 = false:=by unfold gek;rw [ord_r0];simpa using hb
    have hx:capS (ambX (cn .f32 d1) (cn .f32 f1)) = cn .f32 0:=by unfold ambX;rw [e1,e2,hg,← cn_zero];unfold capS;simp only [Bool.false_eq_true,if_false];rw [hcc];rfl
    exact ⟨⟨j + 1,r,by omega,by omega,rfl,rfl,by unfold Hid;rw [hfin.out,hx,hr,Nat.add_sub_add_right],below_drewN W5b _⟩,by simp [intOf];omega⟩
   ·have hg:gek .f32 (cn .f32 rq) 0 = true:=by unfold gek;rw [ord_r0];simpa using hb
    have hx:capS (ambX (cn .f32 d1) (cn .f32 f1)) = cn .f32 1065353216:=by unfold ambX;rw [e1,e2,hg];unfold capS;simp only [if_true];rw [hcc];rfl
    exact ⟨⟨j + 1,r,by omega,by omega,rfl,rfl,by unfold Hid;rw [hfin.out,hx,hr,Nat.add_sub_add_right],below_drewN W5b _⟩,by simp [intOf];omega⟩
   ·have hg:gek .f32 (cn .f32 rq) 0 = true:=by unfold gek;rw [ord_r0];simpa using hb
    have hx:capS (ambX (cn .f32 d1) (cn .f32 f1)) = cn .f32 rq:=by unfold ambX;rw [e1,e2,hg];unfold capS;simp only [if_true];rw [hcc];rfl
    exact ⟨⟨j + 1,r,by omega,by omega,rfl,rfl,by unfold Hid;rw [hfin.out,hx,hr,Nat.add_sub_add_right],below_drewN W5b _⟩,by simp [intOf];omega⟩
  ·have hle':¬ (j:Int) ≤ (k:Int):=by omega
   obtain rfl:j = k + 1:=by omega
   have hRs:Hid (R = cn .f32 sm):=by have:=hgo.out;rwa [Nat.sub_self,ambGo] at this
   clear hgo
   go_wp2_with ((refine wp_bin rfl _ _ _ _ _ rfl _ _ _ rfl rfl rfl ?_;intro r n hr))
   go_ret
   exact ⟨_,rfl,by rw [hRs.out];simp only [*];rfl,below_step W1b (by exact below_drewN Wb _)⟩
end Go.Proofs.YtbiacfkiakddiaaGreat

namespace Go.Proofs.YtbiacfkiakddiaaGreat
open Go.RowKit Go.Fl
/-- Only blocks from lo on,before hi,may have been written;none was made. -/
structure Mid (lo hi:Nat) (w w':World):Prop where
 low:Below lo w w'
 size:w'.heap.size = w.heap.size
 high:∀ b,hi ≤ b → w'.heap[b]? = w.heap[b]?
theorem Mid.refl (lo hi:Nat) (w:World):Mid lo hi w w:=⟨Below.refl _ _,rfl,fun _ _ => rfl⟩
theorem Mid.trans {lo hi:Nat} {a b c:World} (h:Mid lo hi a b) (k:Mid lo hi b c):Mid lo hi a c :=
 ⟨h.low.trans k.low,k.size.trans h.size,fun i hi => (k.high i hi).trans (h.high i hi)⟩
theorem Mid.set {lo hi:Nat} {a w:World} (h:Mid lo hi a w) {p:Addr} (hp:lo ≤ p.block ∧ p.block < hi) (u:Value):Mid lo hi a (w.setCell p u) :=
 ⟨h.low.setCell hp.1 u,by rw [show (w.setCell p u).heap.size = w.heap.size from by simp [World.setCell]];exact h.size,fun b hb => (Below.heap_setCell _ _ _ _ (by omega)).trans (h.high b hb)⟩

end Go.Proofs.YtbiacfkiakddiaaGreat

namespace Go.Proofs.YtbiacfkiakddiaaGreat
open Go.RowKit Go.Fl
/-- Ranges in memory,two cells each. -/
def RgAt (n:Nat) (g:Nat) (A:Nat → Nat × Nat) (w:World):Prop:=∀ i,i < n → w.cell? ⟨g,i * 2,none⟩ = some (F1 (A i).1) ∧ w.cell? ⟨g,i * 2 + 1,none⟩ = some (F1 (A i).2)
theorem RgAt.keep {n g:Nat} {A:Nat → Nat × Nat} {w w':World} (h:RgAt n g A w) (hb:Below w.heap.size w w'):RgAt n g A w':=fun i hi => by
 obtain ⟨h1,h2⟩:=h i hi
 exact ⟨by rw [lift hb _ (by rw [h1];rfl)];exact h1,by rw [lift hb _ (by rw [h2];rfl)];exact h2⟩


end Go.Proofs.YtbiacfkiakddiaaGreat

namespace Go.Proofs.YtbiacfkiakddiaaGreat
open Go.RowKit Go.Fl
/-- A list of ranges of one's own: no block,or a whole block from lo on. -/
def RgOwn (lo n:Nat) (v:Value) (A:Nat → Nat × Nat) (w:World):Prop:=(n = 0 ∧ v = .slice none 0 0) ∨ ∃ g,v = .slice (some ⟨g,0,none⟩) n n ∧ lo ≤ g ∧ w.heap[g]? = some (.cells (vec2 n A) 118 (0,0))
/-- A list of ranges that can be read. -/
def RgRead (n:Nat) (v:Value) (A:Nat → Nat × Nat) (w:World):Prop:=(n = 0 ∧ v = .slice none 0 0) ∨ ∃ g cap,v = .slice (some ⟨g,0,none⟩) n cap ∧ RgAt n g A w
theorem RgOwn.read {lo n:Nat} {v:Value} {A:Nat → Nat × Nat} {w:World} (h:RgOwn lo n v A w):RgRead n v A w:=by
 rcases h with h | ⟨g,rfl,_,h⟩
 ·exact .inl h
 ·exact .inr ⟨g,n,rfl,fun i hi => vec2_at h i hi⟩
theorem RgRead.keep {n:Nat} {v:Value} {A:Nat → Nat × Nat} {w w':World} (h:RgRead n v A w) (hb:Below w.heap.size w w'):RgRead n v A w':=by
 rcases h with h | ⟨g,cap,rfl,h⟩
 ·exact .inl h
 ·exact .inr ⟨g,cap,rfl,h.keep hb⟩
theorem RgOwn.keep {lo n:Nat} {v:Value} {A:Nat → Nat × Nat} {w w':World} (h:RgOwn lo n v A w) (hb:Below w.heap.size w w'):RgOwn lo n v A w':=by
 rcases h with h | ⟨g,rfl,hg,h⟩
 ·exact .inl h
 ·exact .inr ⟨g,rfl,hg,by rw [hb.block g (Array.getElem?_eq_some_iff.1 h).1];exact h⟩

end Go.Proofs.YtbiacfkiakddiaaGreat

namespace Go.Proofs.YtbiacfkiakddiaaGreat
open Go.RowKit Go.Fl
/-- The numbers of a node can be written. -/
def NumFree (G o:Nat) (w:World):Prop:=∃ g n m,G < g ∧ w.cell? ⟨G,o + 3,none⟩ = some (.slice (some ⟨g,0,none⟩) n m) ∧ g < w.heap.size ∧ ∀ j,w.frozen? ⟨g,j,none⟩ = false
theorem froz_keep {w w':World} {g j:Nat} (hg:g < w.heap.size) (hb:Below w.heap.size w w'):w'.frozen? ⟨g,j,none⟩ = w.frozen? ⟨g,j,none⟩:=by
 simp only [World.frozen?]
 rw [hb.block g hg]
theorem NumFree.keep {G o:Nat} {w w':World} (h:NumFree G o w) (hb:Below w.heap.size w w'):NumFree G o w':=by
 obtain ⟨g,n,m,h0,h1,h2,h3⟩:=h
 exact ⟨g,n,m,h0,by rw [lift hb _ (by rw [h1];rfl)];exact h1,Nat.lt_of_lt_of_le h2 hb.size,fun j => by rw [froz_keep h2 hb];exact h3 j⟩
theorem NumFree.set {G o:Nat} {w:World} (h:NumFree G o w) (j:Nat) (hj:j < o ∨ o + 4 ≤ j) (v:Value):NumFree G o (w.setCell ⟨G,j,none⟩ v):=by
 obtain ⟨g,n,m,h0,h1,h2,h3⟩:=h
 refine ⟨g,n,m,h0,?_,by simpa [World.setCell] using h2,fun j => by rw [World.frozen?_setCell];exact h3 j⟩
 exact (World.cell?_setCell_other (w:=w) (a:=⟨G,j,none⟩) (b:=⟨G,o + 3,none⟩) (v:=v) (by intro e;injection e with _ e;omega)).trans h1
end Go.Proofs.YtbiacfkiakddiaaGreat

namespace Go.Proofs.YtbiacfkiakddiaaGreat
open Go.RowKit Go.Fl
/-- Points of one's own. -/
def VcOwn (n G:Nat) (P:Nat → Nat × Nat × Nat) (w:World):Prop:=(∃ A:Array Value,A.size = n * 3 ∧ w.heap[G]? = some (.cells A 38 (0,0))) ∧ PtsIn n G 0 P w
theorem VcOwn.keep {n G:Nat} {P:Nat → Nat × Nat × Nat} {w w':World} (h:VcOwn n G P w) (hb:Below w.heap.size w w'):VcOwn n G P w':=by
 obtain ⟨⟨A,h1,h2⟩,h3⟩:=h
 exact ⟨⟨A,h1,by rw [hb.block G (Array.getElem?_eq_some_iff.1 h2).1];exact h2⟩,h3.keep hb⟩

end Go.Proofs.YtbiacfkiakddiaaGreat

namespace Go.Proofs.YtbiacfkiakddiaaGreat
open Go.RowKit Go.Fl
/-- Numbers are marked. -/
def Cells (g n:Nat) (w:World):Prop:=∀ i,i < n → ∃ v,w.cell? ⟨g,i,none⟩ = some v
theorem Cells.set {g n:Nat} {w:World} (h:Cells g n w) (p:Addr) (v:Value):Cells g n (w.setCell p v):=fun i hi => by
 obtain ⟨u,hu⟩:=h i hi
 by_cases hp:p = ⟨g,i,none⟩
 ·subst hp
  exact ⟨v,World.cell?_setCell_same w _ v hu⟩
 ·exact ⟨u,(World.cell?_setCell_other (w:=w) (a:=p) (b:=⟨g,i,none⟩) (v:=v) hp).trans hu⟩

theorem some_set {w:World} {a p:Addr} {v:Value} (h:∃ u,w.cell? a = some u):∃ u,(w.setCell p v).cell? a = some u:=by
 obtain ⟨u,hu⟩:=h
 by_cases hp:p = a
 ·subst hp
  exact ⟨v,World.cell?_setCell_same w _ v hu⟩
 ·exact ⟨u,(World.cell?_setCell_other (w:=w) (a:=p) (b:=a) (v:=v) hp).trans hu⟩

end Go.Proofs.YtbiacfkiakddiaaGreat

namespace Go.Proofs.YtbiacfkiakddiaaGreat
open Go.RowKit Go.Fl
/-- A node that can be marked. -/
def NodeM (G o hi:Nat) (w:World):Prop:=(∃ v,w.cell? ⟨G,o,none⟩ = some v) ∧ (∃ v,w.cell? ⟨G,o + 1,none⟩ = some v) ∧ (∃ v,w.cell? ⟨G,o + 2,none⟩ = some v) ∧ ∃ g n,G < g ∧ g < hi ∧ n ≤ 1048576 ∧ w.cell? ⟨G,o + 3,none⟩ = some (.slice (some ⟨g,0,none⟩) n n) ∧ Cells g n w ∧ ∀ j,w.frozen? ⟨g,j,none⟩ = false
theorem NodeM.set {G o hi:Nat} {w:World} (h:NodeM G o hi w) (j:Nat) (hj:j ≠ o + 3) (v:Value):NodeM G o hi (w.setCell ⟨G,j,none⟩ v):=by
 obtain ⟨h1,h2,h3,g,n,h4,h5,h6,h7,h8,h9⟩:=h
 exact ⟨some_set h1,some_set h2,some_set h3,g,n,h4,h5,h6,(World.cell?_setCell_other (w:=w) (a:=⟨G,j,none⟩) (b:=⟨G,o + 3,none⟩) (v:=v) (by intro e;injection e with _ e;omega)).trans h7,h8.set _ _,fun i => by rw [World.frozen?_setCell];exact h9 i⟩
end Go.Proofs.YtbiacfkiakddiaaGreat

namespace Go.Proofs.YtbiacfkiakddiaaGreat
open Go.RowKit Go.Fl
/-- The words of a statement's slots: a shape that is new;a result in memory. -/
def GdW (ns:List PN) (sl:List Tmp) (rs:Tmp) (Res:Value → World → Prop) (d:Tmp) (v:Value) (w:World):Prop :=
 (d ∈ sl → ∀ G,v = .agg #[.slice (some ⟨G,0,none⟩) ns.length ns.length] → ∀ i (h:i < ns.length),NodeNew ns[i] G (0 + i * 4) w) ∧ (d = rs → v = undef ∨ Res v w)
theorem gdw_lasts (ns:List PN) (sl:List Tmp) (rs:Tmp) {Res:Value → World → Prop} (hR:∀ v w w',Res v w → Below w.heap.size w w' → Res v w'):Qg.Lasts (GdW ns sl rs Res) :=
 ⟨fun d v w w' h hb => ⟨fun hd G hv i hi => (h.1 hd G hv i hi).keep hb,fun hd => (h.2 hd).imp id fun h => hR _ _ _ h hb⟩,fun d w => ⟨fun _ G hv => (by cases hv),fun _ => .inl rfl⟩⟩
theorem gdw_start {ns:List PN} {sl:List Tmp} {rs:Tmp} {Res:Value → World → Prop} {a:Act} {w:World} (h:∀ d ∈ sl ++ [rs],a.tmps.getD d undef = undef):Qg.E (GdW ns sl rs Res) [] a w :=
 ⟨fun d => ⟨fun hd G hv => (by rw [h d (by simp [hd])] at hv;cases hv),fun hd => .inl (by rw [h d (by simp [hd])])⟩,fun d hd => (by cases hd),fun d hd => (by cases hd)⟩
theorem gdw_no {ns:List PN} {sl:List Tmp} {rs:Tmp} {Res:Value → World → Prop} {d:Tmp} {v:Value} {w:World} (h1:d ∉ sl) (h2:d ≠ rs):Qg.gd (GdW ns sl rs Res) (some d) v w :=
 ⟨fun h => absurd h h1,fun h => absurd h h2⟩
theorem gdw_res {ns:List PN} {sl:List Tmp} {rs:Tmp} {Res:Value → World → Prop} {v:Value} {w:World} (h1:rs ∉ sl) (h:Res v w):Qg.gd (GdW ns sl rs Res) (some rs) v w :=
 ⟨fun h => absurd h h1,fun _ => .inr h⟩

/-- A result that is told with a truth value. -/
def Rs2 (bv:Bool) (P:Value → World → Prop) (v:Value) (w:World):Prop:=∀ u,v = .tuple #[u,.bool bv] → P u w
theorem Rs2.mk {bv:Bool} {P:Value → World → Prop} {u:Value} {w:World} (h:P u w):Rs2 bv P (.tuple #[u,.bool bv]) w:=fun u' hu => by
 injection hu with hu;injection hu with hu;injection hu with hu _;rw [← hu];exact h
theorem Rs2.keep {bv:Bool} {P:Value → World → Prop} (hP:∀ v w w',P v w → Below w.heap.size w w' → P v w') (v:Value) (w w':World) (h:Rs2 bv P v w) (hb:Below w.heap.size w w'):Rs2 bv P v w':=fun u hu => hP _ _ _ (h u hu) hb

/-- A shape that can be marked. -/
def ShW (n G hi:Nat) (w:World):Prop:=G < w.heap.size ∧ (∀ i,i < n → NodeM G (i * 4) hi w) ∧ ∀ o,w.frozen? ⟨G,o,none⟩ = false
theorem NodeM.keep {G o hi:Nat} {w w':World} (h:NodeM G o hi w) (hb:Below w.heap.size w w') (hh:hi ≤ w.heap.size):NodeM G o hi w':=by
 have l:=fun a (h:∃ v,w.cell? a = some v) => (show ∃ v,w'.cell? a = some v by obtain ⟨v,hv⟩:=h;exact ⟨v,by rw [lift hb a (by rw [hv];rfl)];exact hv⟩)
 obtain ⟨h1,h2,h3,g,n,h4,h5,h6,h7,h8,h9⟩:=h
 exact ⟨l _ h1,l _ h2,l _ h3,g,n,h4,h5,h6,by rw [lift hb _ (by rw [h7];rfl)];exact h7,fun i hi => l _ (h8 i hi),fun j => by rw [froz_keep (by omega) hb];exact h9 j⟩
theorem ShW.keep {n G hi:Nat} {w w':World} (h:ShW n G hi w) (hb:Below w.heap.size w w') (hh:hi ≤ w.heap.size):ShW n G hi w' :=
 ⟨Nat.lt_of_lt_of_le h.1 hb.size,fun i hi => (h.2.1 i hi).keep hb hh,fun o => by rw [froz_keep h.1 hb];exact h.2.2 o⟩
end Go.Proofs.YtbiacfkiakddiaaGreat
