/-
 Lemmas: C1,C3,D21,Qg,D22,Rq.
-/
import Derived.Test.YtbiacfkiakddiaaGreatOce
import Derived.Test.YtbiacfkiakddiaaGreatOch
import Derived.Below
import Derived.BigRegion
import Derived.Carry
import Derived.ChangeAlike
import Derived.ChangeSame
import Derived.Deep.AppendLies
import Derived.Deep.Cut
import Derived.Deep.DeepCutAuto
import Derived.Deep.Draws
import Derived.Deep.Fields
import Derived.Deep.Onto
import Derived.Deep.RegionHeld
import Derived.Deep.Slices
import Derived.KernelRfl
import Derived.Laws.FloatArith
import Derived.Laws.FloatBits
import Derived.Laws.IdiomStrings
import Derived.Laws.MakeOwn
import Derived.Lib.Hide
import Derived.OpenShut
import Derived.Outline
import Derived.OwnWalk
import Derived.ProofKit
import Derived.RegionTactic
import Derived.StillTail
import Derived.Test.YtbiacfkiakddiaaGreatChecked
import Derived.Test.YtbiacfkiakddiaaGreatRows
import Derived.WalkKit
import Derived.WalkLawsBesides
import Ieee.Arith
set_option linter.unusedVariables false
set_option linter.unusedSimpArgs false
namespace Go.Proofs.YtbiacfkiakddiaaGreat
open Go.RowKit Go.Fl
theorem int_info:(Tryz.prog.info? 2).map (fun i => (i.zero,i.size,i.bytes)) = some (some (.int .i64 0),1,8):=by kernel_rfl
/-- A list of integers. -/
abbrev il (xs:List Int):List Value:=xs.map fun i => .int .i64 i

/-- One integer is appended. -/
theorem wp_appI {ops:Array Oper} {rest:List Oper} {o:Oper} {a:Act} {Q:Exit → Act → World → Prop} {W:World} (base:Nat) (hgd:o.guard = none) (s x:Operand)
  (ho:o.op = .call { callee:=.builtin .append,args:=#[s,x],argTypes:=#[61,61] })
  (v:Value) (m:Nat) (xs:List Int) (hs:a.eval s = v) (hown:W.ownsRow base 2 1 v m (il xs)) (gn:Nat) (r:Int) (hx:a.eval x = .slice (some ⟨gn,0,none⟩) 1 1) (hcell:W.cell? ⟨gn,0,none⟩ = some (.int .i64 r))
  (hm:m ≤ 1000) (hbase:base ≤ W.heap.size)
  (h:∀ v' w',w'.ownsRow base 2 1 v' (m + 1) (il (xs ++ [r])) → W.grownBy w' v.ownBlock → wpList Tryz.prog ops Q rest (a.put o.dst v') w'):wpList Tryz.prog ops Q (o :: rest) a W:=by
 obtain ⟨i0,hi,hz0,hz1,hz2⟩:=info_parts int_info
 refine wpList_append_own _ hgd s x 61 ho base 2 i0 (.int .i64 0) 1 8 Tryz.underlying61 hi hz0 hz1 hz2 rfl (by decide) v m (il xs) hs hown ⟨gn,0,none⟩ 1 1 [.int .i64 r] hx rfl ?_ ?_ (by unfold maxLen;omega) (by omega) hbase ?_
 ·intro j u hu
  cases j with
  | zero => simp at hu;subst hu;exact hcell
  | succ j => simp at hu
 ·intro u hu
  simp at hu
  subst hu
  rfl
 ·intro v' w' h1 h2 _
  refine h v' w' ?_ h2
  simpa [il] using h1

/-- A list of integers of one's own. -/
def IlOwn (lo:Nat) (v:Value) (xs:List Int) (w:World):Prop:=(xs = [] ∧ v = .slice none 0 0) ∨ w.ownsRow lo 2 1 v xs.length (il xs)
def RetIl (ok:Bool) (L:List Int) (w:World) (e:Ending) (w':World):Prop:=∃ v,e = .returned (.tuple #[v,.bool ok]) ∧ IlOwn w.heap.size v (if ok then L else []) w' ∧ Below w.heap.size w w'
theorem retIl_no {ok:Bool} {L:List Int} {w w':World} (h:ok = false) (hb:Below w.heap.size w w'):RetIl ok L w (.returned (.tuple #[.slice none 0 0,.bool false])) w':=by
 subst h
 exact ⟨_,rfl,.inl ⟨rfl,rfl⟩,hb⟩
theorem retIl_yes {ok:Bool} {L:List Int} {v:Value} {w w':World} (h:ok = true) (hv:w'.ownsRow w.heap.size 2 1 v L.length (il L)) (hb:Below w.heap.size w w'):RetIl ok L w (.returned (.tuple #[v,.bool true])) w':=by
 subst h
 exact ⟨v,rfl,.inr hv,hb⟩


end Go.Proofs.YtbiacfkiakddiaaGreat

namespace Go.Proofs.YtbiacfkiakddiaaGreat
open Go.RowKit Go.Fl
/-- A list of one's own is written. -/
theorem row_set {w:World} {base:Nat} {e:TypeId} {size g n cap:Nat} {xs:List Value} (h:w.ownsRow base e size (.slice (some ⟨g,0,none⟩) n cap) n xs) (j:Nat) (u:Value) (hj:j < n * size) :
  (w.setCell ⟨g,j,none⟩ u).ownsRow base e size (.slice (some ⟨g,0,none⟩) n cap) n (xs.set j u):=by
 obtain ⟨hl,h⟩:=h
 rcases h with ⟨h0,_⟩ | ⟨g',cap',cur,hv,hb,hg,hc,hm,hs,ht⟩
 ·cases h0
 ·injection hv with hv1 _ hv2;injection hv1 with hv1;injection hv1 with hv1;subst hv1;subst hv2
  refine ⟨by simpa using hl,.inr ⟨g,cap,cur.setIfInBounds j u,rfl,hb,arr_set hg j u,hc,hm,by simpa using hs,?_⟩⟩
  rw [Array.toList_setIfInBounds,List.take_set,ht]
theorem row_froz {w:World} {base:Nat} {e:TypeId} {size g n cap:Nat} {xs:List Value} (h:w.ownsRow base e size (.slice (some ⟨g,0,none⟩) n cap) n xs) (j:Nat):w.frozen? ⟨g,j,none⟩ = false:=by
 rcases h.2 with ⟨h0,_⟩ | ⟨g',cap',cur,hv,hb,hg,hc,hm,hs,ht⟩
 ·cases h0
 ·injection hv with hv1 _ hv2;injection hv1 with hv1;injection hv1 with hv1;subst hv1
  exact arr_frozen hg j
theorem row_nil (w:World) (base:Nat) (e:TypeId) (size:Nat):w.ownsRow base e size (.slice none 0 0) 0 []:=⟨by simp,.inl ⟨rfl,rfl⟩⟩

theorem il_read {lo:Nat} {v:Value} {xs:List Int} {w:World} (h:w.ownsRow lo 2 1 v xs.length (il xs)):IlRd v xs w:=by
 rcases row_form h with ⟨rfl,h0⟩ | ⟨g,cap,rfl,_,_⟩
 ·exact ⟨none,0,0,by rw [h0],fun hne => absurd (List.length_eq_zero_iff.1 h0) hne,fun i hi => by omega⟩
 ·refine ⟨_,g,cap,rfl,fun _ => rfl,fun i hi => ?_⟩
  have:=h.cellAt i (by omega)
  rw [show (il xs)[i]? = some (.int .i64 xs[i]) by simp [il,hi]] at this
  simpa using this

set_option maxRecDepth 100000 in
set_option maxHeartbeats 2000000 in
theorem eq_ints (xs:List Int) (hn:xs.length ≤ 1000000) (v u:Value) (w:World) (h1:IlRd v xs w) (h2:IlRd u xs w) :
  Calls Tryz.prog 35 #[v,u] w (fun e w' => e = .returned (.bool true) ∧ Below w.heap.size w w'):=by
 obtain ⟨bp,g,cap,rfl,hg,hc⟩:=h1
 obtain ⟨bp',g',cap',rfl,hg',hc'⟩:=h2
 have hnI:(xs.length:Int) ≤ 9223372036854775807:=by omega
 go_enter Tryz.func35,Tryz.ntmps35
 go_wp2_with fail
 go_loopw [5] (fun i wr => ∃ (m:Nat),m ≤ xs.length ∧ i = .int .i64 (m:Int) ∧ Below w.heap.size w wr) (fun i _ => xs.length - (intOf i).toNat)
 case atStart => exact ⟨0,by omega,rfl,Below.refl _ _⟩
 case round =>
  obtain ⟨m,hm,rfl,Wb⟩:=hrel
  by_cases hlt:m < xs.length
  ·have hlt':(m:Int) < (xs.length:Int):=by omega
   have h0:(0:Int) ≤ (m:Int):=by omega
   have hne:xs ≠ []:=by intro h;rw [h] at hlt;simp at hlt
   have e1:=hg hne
   have e2:=hg' hne
   subst e1;subst e2
   have c1:wr.cell? ⟨g,m,none⟩ = some (.int .i64 xs[m]):=by rw [lift Wb _ (by rw [hc m hlt];rfl)];exact hc m hlt
   have c2:wr.cell? ⟨g',m,none⟩ = some (.int .i64 xs[m]):=by rw [lift Wb _ (by rw [hc' m hlt];rfl)];exact hc' m hlt
   generalize xs[m] = x at c1 c2
   have hkept:Kept [(⟨g,m,none⟩,.int .i64 x),(⟨g',m,none⟩,.int .i64 x)] [] wr:=by simp only [Kept,ka,kb,kc,kd,ke,kfa,kga];simp [c1,c2]
   clear hc hc' hg hg' c1 c2
   go_upto_region 6 with fail
   refine Qr.wp_below_all (by kernel_rfl) (by kernel_rfl) (fun _ _ _ => False) ?_
   repeat (refine Qr.walk_plain rfl fun K hK => ?_;apply Qr.one_det;(focus (intro w' hw';have HK:=keep hkept hw';simp only [Kept,ka,kb,kc,kd,ke,kfa,kga] at HK;go_simp;first | done | rfl));go_simp;refine hK _ ?_;clear hK K)
   refine Qr.walk_nil fun w6 hw6 => ?_
   go_wp2_with fail
   exact ⟨⟨m + 1,by omega,by simp,below_step Wb hw6⟩,by simp [intOf];omega⟩
  ·obtain rfl:m = xs.length:=by omega
   clear hc hc'
   go_wp2_with fail
   go_ret
   exact ⟨rfl,Wb⟩

/-- Integers that are marked. -/
def mkI (xs:List Int) (k:Int):Nat → List Int
 | 0 => xs
 | j + 1 => (mkI xs k j).set j (k + (j:Int))
theorem mkI_len (xs:List Int) (k:Int):∀ j,(mkI xs k j).length = xs.length
 | 0 => rfl
 | j + 1 => by rw [mkI,List.length_set,mkI_len]
theorem mkI_get (xs:List Int) (k:Int):∀ (j i:Nat),i < j → i < xs.length → (mkI xs k j)[i]? = some (k + (i:Int))
 | j + 1,i,h,hl => by
  rw [mkI]
  by_cases e:j = i
  ·subst e;rw [List.getElem?_set_self (by rw [mkI_len];exact hl)]
  ·rw [List.getElem?_set_ne e];exact mkI_get xs k j i (by omega) hl

set_option maxRecDepth 100000 in
set_option maxHeartbeats 2000000 in
theorem mark_ints (xs:List Int) (hn:xs.length ≤ 1000000) (lo:Nat) (v:Value) (k:Int) (hk:0 ≤ k ∧ k ≤ 1000000000) (w:World) (h:w.ownsRow lo 2 1 v xs.length (il xs)) :
  Calls Tryz.prog 38 #[v,.int .i64 k] w (fun e w' => e = .returned (.int .i64 (k + (xs.length:Int))) ∧ w'.ownsRow lo 2 1 v xs.length (il (mkI xs k xs.length)) ∧ Below lo w w'):=by
 obtain ⟨k0,k1⟩:=hk
 have hnI:(xs.length:Int) ≤ 9223372036854775807:=by omega
 rcases row_form h with ⟨rfl,h0⟩ | ⟨g,cap,rfl,hlo,hgl⟩
 ·obtain rfl:=List.length_eq_zero_iff.1 h0
  go_enter Tryz.func38,Tryz.ntmps38
  go_wp2_with fail
  go_loopw [1,5] (fun q i wr => i = .int .i64 0 ∧ q = .int .i64 k ∧ wr = w) (fun _ _ _ => 0)
  case atStart => exact ⟨rfl,rfl,rfl⟩
  case round =>
   obtain ⟨rfl,rfl,rfl⟩:=hrel
   go_wp2_with fail
   go_ret
   exact ⟨by simp,h,Below.refl _ _⟩
 go_enter Tryz.func38,Tryz.ntmps38
 go_wp2_with fail
 go_loopw [1,5] (fun q i wr => ∃ (m:Nat),m ≤ xs.length ∧ i = .int .i64 (m:Int) ∧ q = .int .i64 (k + (m:Int)) ∧ wr.ownsRow lo 2 1 (.slice (some ⟨g,0,none⟩) xs.length cap) xs.length (il (mkI xs k m)) ∧ Below lo w wr) (fun _ i _ => xs.length - (intOf i).toNat)
 case atStart => exact ⟨0,by omega,rfl,by simp,h,Below.refl _ _⟩
 case round =>
  obtain ⟨m,hm,rfl,rfl,hown,Wb⟩:=hrel
  by_cases hlt:m < xs.length
  ·have hlt':(m:Int) < (xs.length:Int):=by omega
   have h0:(0:Int) ≤ (m:Int):=by omega
   have hc:=hown.cellAt m (by omega)
   have hl:=mkI_len xs k m
   rw [show (il (mkI xs k m))[m]? = some (.int .i64 ((mkI xs k m)[m]'(by omega))) by simp [il,hl,hlt]] at hc
   generalize (mkI xs k m)[m]'(by omega) = x at hc
   have hz:=row_froz hown m
   have hset:=Lib.hid (row_set hown m (.int .i64 (k + (m:Int))) (by omega))
   have hB:=Lib.hid (Wb.setCell (p:=⟨g,m,none⟩) hlo (.int .i64 (k + (m:Int))))
   clear hown h
   go_wp2_with fail
   have hE:k + (m:Int) + 1 = k + ((m + 1:Nat):Int):=by omega
   exact ⟨⟨m + 1,by omega,by simp,by rw [hE],by rw [mkI,il,List.map_set];exact hset.out,hB.out⟩,by simp [intOf];omega⟩
  ·obtain rfl:m = xs.length:=by omega
   have hH:=Lib.hid hown
   clear hown h
   go_wp2_with fail
   go_ret
   exact ⟨rfl,hH.out,Wb⟩

set_option maxRecDepth 100000 in
set_option maxHeartbeats 2000000 in
theorem held_ints (xs:List Int) (hn:xs.length ≤ 1000000) (v:Value) (k:Int) (hk:0 ≤ k ∧ k ≤ 1000000000) (w:World) (h:IlRd v (mkI xs k xs.length) w) :
  Calls Tryz.prog 39 #[v,.int .i64 k] w (fun e w' => e = .returned (.int .i64 (k + (xs.length:Int))) ∧ Below w.heap.size w w'):=by
 obtain ⟨k0,k1⟩:=hk
 have hnI:(xs.length:Int) ≤ 9223372036854775807:=by omega
 obtain ⟨bp,g,cap,rfl,hg,hc⟩:=h
 rw [mkI_len]
 have hc2:∀ i,i < xs.length → w.cell? ⟨g,i,none⟩ = some (.int .i64 (k + (i:Int))):=fun i hi => by
  have h1:=hc i (by rw [mkI_len];exact hi)
  have h2:=mkI_get xs k xs.length i hi hi
  rw [List.getElem?_eq_getElem (by rw [mkI_len];exact hi)] at h2
  injection h2 with h2
  rw [h1,h2]
 have hg2:xs.length ≠ 0 → bp = some ⟨g,0,none⟩:=fun h0 => hg (by intro e;have:=mkI_len xs k xs.length;rw [e] at this;exact h0 this.symm)
 clear hc hg
 go_enter Tryz.func39,Tryz.ntmps39
 go_wp2_with fail
 go_loopw [1,5] (fun q i wr => ∃ (m:Nat),m ≤ xs.length ∧ i = .int .i64 (m:Int) ∧ q = .int .i64 (k + (m:Int)) ∧ Below w.heap.size w wr) (fun _ i _ => xs.length - (intOf i).toNat)
 case atStart => exact ⟨0,by omega,rfl,by simp,Below.refl _ _⟩
 case round =>
  obtain ⟨m,hm,rfl,rfl,Wb⟩:=hrel
  by_cases hlt:m < xs.length
  ·have hlt':(m:Int) < (xs.length:Int):=by omega
   have h0:(0:Int) ≤ (m:Int):=by omega
   have e1:=hg2 (by omega)
   subst e1
   have c1:wr.cell? ⟨g,m,none⟩ = some (.int .i64 (k + (m:Int))):=by rw [lift Wb _ (by rw [hc2 m hlt];rfl)];exact hc2 m hlt
   clear hc2 hg2
   go_wp2_with fail
   have hE:k + (m:Int) + 1 = k + ((m + 1:Nat):Int):=by omega
   exact ⟨⟨m + 1,by omega,by simp,by rw [hE],by first | exact Wb | exact Wb.drew⟩,by simp [intOf];omega⟩
  ·obtain rfl:m = xs.length:=by omega
   clear hc2
   go_wp2_with fail
   go_ret
   exact ⟨rfl,Wb⟩
end Go.Proofs.YtbiacfkiakddiaaGreat

namespace Go.Proofs.YtbiacfkiakddiaaGreat
open Go.RowKit Go.Fl
theorem u8_info:(Tryz.prog.info? 5).map (fun i => (i.zero,i.size,i.bytes)) = some (some (.int .u8 0),1,1):=by kernel_rfl
/-- A list of bytes. -/
abbrev bl (l:List UInt8):List Value:=l.map fun b => .int .u8 (b.toNat:Int)
def bytU (n:Int):UInt8:=UInt8.ofNat (n % 256).toNat
theorem bytU_nat (n:Int):((bytU n).toNat:Int) = n % 256:=by
 unfold bytU
 rw [UInt8.toNat_ofNat']
 have h1:0 ≤ n % 256:=Int.emod_nonneg _ (by decide)
 have h2:n % 256 < 256:=Int.emod_lt_of_pos _ (by decide)
 omega

/-- One byte is appended. -/
theorem wp_appU {ops:Array Oper} {rest:List Oper} {o:Oper} {a:Act} {Q:Exit → Act → World → Prop} {W:World} (base:Nat) (hgd:o.guard = none) (s x:Operand)
  (ho:o.op = .call { callee:=.builtin .append,args:=#[s,x],argTypes:=#[247,247] })
  (v:Value) (m:Nat) (xs:List UInt8) (hs:a.eval s = v) (hown:W.ownsRow base 5 1 v m (bl xs)) (gn:Nat) (r:UInt8) (hx:a.eval x = .slice (some ⟨gn,0,none⟩) 1 1) (hcell:W.cell? ⟨gn,0,none⟩ = some (.int .u8 (r.toNat:Int)))
  (hm:m ≤ 1000) (hbase:base ≤ W.heap.size)
  (h:∀ v' w',w'.ownsRow base 5 1 v' (m + 1) (bl (xs ++ [r])) → W.grownBy w' v.ownBlock → wpList Tryz.prog ops Q rest (a.put o.dst v') w'):wpList Tryz.prog ops Q (o :: rest) a W:=by
 obtain ⟨i0,hi,hz0,hz1,hz2⟩:=info_parts u8_info
 refine wpList_append_own _ hgd s x 247 ho base 5 i0 (.int .u8 0) 1 1 Tryz.underlying247 hi hz0 hz1 hz2 rfl (by decide) v m (bl xs) hs hown ⟨gn,0,none⟩ 1 1 [.int .u8 (r.toNat:Int)] hx rfl ?_ ?_ (by unfold maxLen;omega) (by omega) hbase ?_
 ·intro j u hu
  cases j with
  | zero => simp at hu;subst hu;exact hcell
  | succ j => simp at hu
 ·intro u hu
  simp at hu
  subst hu
  rfl
 ·intro v' w' h1 h2 _
  refine h v' w' ?_ h2
  simpa [bl] using h1

/-- The bytes of a row,of rows. -/
def rowB (sh:Int → Int → Nat) (y x:Int):Nat → List UInt8
 | 0 => []
 | n + 1 => rowB sh y x n ++ [bytU (byteI (sh (x + (n:Int)) y))]
def picB (sh:Int → Int → Nat) (x y:Int) (n:Nat):Nat → List UInt8
 | 0 => []
 | h + 1 => picB sh x y n h ++ rowB sh (y + (h:Int)) x n
theorem rowB_len (sh:Int → Int → Nat) (y x:Int):∀ n,(rowB sh y x n).length = n
 | 0 => rfl
 | n + 1 => by rw [rowB,List.length_append,rowB_len];rfl
theorem picB_len (sh:Int → Int → Nat) (x y:Int) (n:Nat):∀ h,(picB sh x y n h).length = h * n
 | 0 => by rw [Nat.zero_mul];rfl
 | h + 1 => by rw [picB,List.length_append,picB_len,rowB_len,Nat.succ_mul]

abbrev TilV (x y n h:Int):Value:=.agg #[.int .i64 x,.int .i64 y,.int .i64 n,.int .i64 h]

set_option maxRecDepth 100000 in
set_option maxHeartbeats 8000000 in
theorem render_any (vb:Nat) (SH:Int → Int → Nat) (X Y:Int) (n h:Nat) (hX:0 ≤ X ∧ X ≤ 12) (hY:0 ≤ Y ∧ Y ≤ 12) (hn1:1 ≤ n) (hn:n ≤ 12) (hh1:1 ≤ h) (hh:h ≤ 12) (w:World)
  (hshd:∀ x y w',Below w.heap.size w w' → Calls Tryz.prog 105 #[.pointer (some ⟨vb,0,none⟩),.int .i64 x,.int .i64 y] w' (Ret .f32 (SH x y) w')) :
  Calls Tryz.prog 112 #[.pointer (some ⟨vb,0,none⟩),TilV X Y (n:Int) (h:Int)] w (fun e w' => e = .returned (.string ⟨(picB SH X Y n h).toArray⟩) ∧ Below w.heap.size w w'):=by
 go_enter Tryz.func112,Tryz.ntmps112
 go_upto_region 1 with fail
 generalize hW:w.alloc (.cells #[.int .i64 X,.int .i64 Y,.int .i64 (n:Int),.int .i64 (h:Int)] 99) = W1 at *
 have W1b:Below w.heap.size w W1:=by subst hW;exact (by repeat' (first | exact Below.refl _ _ | exact Nat.le_refl _ | refine below_drewN ?_ _ | refine Below.alloc ?_ (by simp <;> omega) _ | refine Below.setCell ?_ (by simp <;> omega) _ | refine below_step ?_ (by assumption)))
 have hkept:Kept [(⟨w.heap.size,0,none⟩,.int .i64 X),(⟨w.heap.size,1,none⟩,.int .i64 Y),(⟨w.heap.size,2,none⟩,.int .i64 (n:Int)),(⟨w.heap.size,3,none⟩,.int .i64 (h:Int))] [] W1:=by
  subst hW;simp only [Kept,ka,kb,kc,kd,ke,kfa,kga];(first | (go_simp;done) | (simp [World.cell?,World.frozen?,World.alloc,Array.getElem?_push];done))
 clear hW
 have hK:=hkept;simp only [Kept,ka,kb,kc,kd,ke,kfa,kga] at hK
 obtain ⟨hX0,hX1⟩:=hX
 obtain ⟨hY0,hY1⟩:=hY
 have hws:w.heap.size < W1.heap.size:=some_lt (a:=⟨w.heap.size,0,none⟩) (by simp [hK])
 have hkW:=hkept
 go_wp2_with fail
 go_loopw [5,6] (fun v i wr => ∃ (k:Nat),k ≤ h ∧ i = .int .i64 (Y + (k:Int)) ∧ W1.heap.size ≤ wr.heap.size ∧ wr.ownsRow W1.heap.size 5 1 v (k * n) (bl (picB SH X Y n k)) ∧ Below W1.heap.size W1 wr) (fun _ i _ => h + 12 - (intOf i).toNat)
 case atStart => exact ⟨0,by omega,by simp,by simp,by rw [Nat.zero_mul];exact World.ownsRow_lit W1 #[] 0 (Nat.le_refl _) (by unfold maxLen;omega) rfl,(Below.refl _ _).alloc (Nat.le_refl _) _⟩
 case round =>
  obtain ⟨k,hk,rfl,hsz,hown,Wb⟩:=hrel
  have hkept:=keep hkept Wb
  have Wrb:=below_step W1b Wb
  clear hK
  have hK:=hkept;simp only [Kept,ka,kb,kc,kd,ke,kfa,kga] at hK
  by_cases hlt:k < h
  ·have hlt':Y + (k:Int) < Y + (h:Int):=by omega
   have hkn:k * n ≤ 11 * 12:=Nat.mul_le_mul (by omega) hn
   rename World => wo
   go_wp2_with fail
   go_loopw [5,7] (fun v i wr => ∃ (m:Nat),m ≤ n ∧ i = .int .i64 (X + (m:Int)) ∧ W1.heap.size ≤ wr.heap.size ∧ wr.ownsRow W1.heap.size 5 1 v (k * n + m) (bl (picB SH X Y n k ++ rowB SH (Y + (k:Int)) X m)) ∧ Below W1.heap.size W1 wr) (fun _ i _ => n + 12 - (intOf i).toNat)
   case atStart => exact ⟨0,by omega,by simp,hsz,by simpa [rowB] using hown,Wb⟩
   case round =>
    obtain ⟨m,hm,rfl,hsz2,hown2,Wb2⟩:=hrel
    have hkept:=keep hkW Wb2
    have Wrb2:=below_step W1b Wb2
    clear hK
    have hK:=hkept;simp only [Kept,ka,kb,kc,kd,ke,kfa,kga] at hK
    by_cases hlt2:m < n
    ·have hlt2':X + (m:Int) < X + (n:Int):=by omega
     have hnx:Hid (picB SH X Y n k ++ rowB SH (Y + (k:Int)) X (m + 1) = (picB SH X Y n k ++ rowB SH (Y + (k:Int)) X m) ++ [bytU (byteI (SH (X + (m:Int)) (Y + (k:Int))))]):=by
      unfold Hid;rw [rowB,List.append_assoc]
     have hsh:=hshd (X + (m:Int)) (Y + (k:Int)) wr Wrb2
     obtain ⟨bb,hbb⟩:∃ bb,bb = bytU (byteI (SH (X + (m:Int)) (Y + (k:Int)))):=⟨_,rfl⟩
     have hbv:IntKind.u8.wrap (byteI (SH (X + (m:Int)) (Y + (k:Int)))) = (bb.toNat:Int):=by rw [hbb,bytU_nat];rfl
     rw [← hbb] at hnx
     clear hbb
     have hLn:k * n + m ≤ 1000:=by omega
     generalize picB SH X Y n k ++ rowB SH (Y + (k:Int)) X m = L at *
     generalize SH (X + (m:Int)) (Y + (k:Int)) = sv at *
     clear hshd hown Wb hkW
     go_wp2_with (first
      | (go_at_call 105;refine hsh.mono ?_;rintro _ w5 ⟨r,rfl,hr,hb1⟩;have Wb5:=below_step Wb2 hb1;have hown5:=owns_below hown2 hb1;have hkept:=keepT hkept hb1 rfl;clear hK;have hK:=hkept;simp only [Kept,ka,kb,kc,kd,ke,kfa,kga] at hK)
      | (go_at_call 182;refine (byte_any _ _).mono ?_;rintro _ w6 ⟨rfl,hb1⟩;rw [hr];have Wb6:=below_step Wb5 hb1;have hown6:=owns_below hown5 hb1;have hkept:=keepT hkept hb1 rfl;clear hK;have hK:=hkept;simp only [Kept,ka,kb,kc,kd,ke,kfa,kga] at hK)
      | (at_builtin;refine wp_appU W1.heap.size rfl (.tmp 31) (.tmp 38) rfl _ _ L rfl (hown6.alloc _) w6.heap.size bb rfl (by simp) hLn (by have:=Wb6.size;simp;omega) ?_;intro v5 w7 hown7 hg7))
     refine ⟨⟨m + 1,by omega,by rw [show X + ((m + 1:Nat):Int) = X + (m:Int) + 1 by omega],Nat.le_trans Wb6.size (by have:=hg7.size;simp at this;omega),by rw [hnx.out];exact hown7,grown_below (Wb6.alloc Wb6.size _) (hown6.alloc _) hg7 (Nat.le_refl _)⟩,by simp [intOf];omega⟩
    ·obtain rfl:m = n:=by omega
     have hpic:Hid (picB SH X Y m (k + 1) = picB SH X Y m k ++ rowB SH (Y + (k:Int)) X m):=rfl
     have hH:=Lib.hid hown2
     clear hown2 hown hshd
     go_wp2_with fail
     refine ⟨⟨k + 1,by omega,by rw [show Y + ((k + 1:Nat):Int) = Y + (k:Int) + 1 by omega],hsz2,?_,Wb2⟩,by simp [intOf];omega⟩
     rw [hpic.out,Nat.succ_mul]
     exact hH.out
  ·obtain rfl:k = h:=by omega
   rcases row_form hown with ⟨rfl,h0⟩ | ⟨g,cap,rfl,_,_⟩
   ·have:=Nat.mul_pos hh1 hn1
    omega
   have hl:=picB_len SH X Y n k
   have hcv:=run_convert_bytes_back (P:=Tryz.prog) wr 247 9 5 ⟨g,0,none⟩ cap (picB SH X Y n k) Tryz.underlying247 Tryz.underlying5 Tryz.underlying9 (fun j hj => by
    have hc:=hown.cellAt j (by omega)
    rw [show (bl (picB SH X Y n k))[j]? = some (.int .u8 ((picB SH X Y n k)[j].toNat:Int)) by simp [bl,hj]] at hc
    rw [show (⟨g,0,none⟩:Addr).add j = ⟨g,j,none⟩ by cases j <;> simp [Addr.add]]
    simpa using hc)
   rw [hl] at hcv
   clear hown hshd
   go_wp2_with fail
   go_ret
   exact ⟨rfl,Wrb⟩
end Go.Proofs.YtbiacfkiakddiaaGreat

namespace Go.Qg
open Go
section
variable {P:Program} {ops:Array Oper} {md:Region.Mode} {C:World → Prop} {Phi:FuncId → Array Value → Value → Prop} {Gd:Tmp → Value → World → Prop} {ad:List Tmp}
/-- THE REGION: the head of n operations in the lexical order,then the tail. -/
theorem wp_gd {id:Nat} {Q:Exit → Act → World → Prop} {a:Act} {w:World} {l:List Oper} (n:Nat) (hm:P.follows .mixedOrders = true) (hB:Region.lexTailB .any l.toArray n = true)
  (Phi:FuncId → Array Value → Value → Prop) (Gd:Tmp → Value → World → Prop) (ad:List Tmp) (hLa:Lasts Gd) (hE:E Gd ad a w)
  (h:Go.RowKit.Below w.heap.size w { w with drawn:=w.drawn + 1 } → walk P l.toArray (fun w' => Go.RowKit.Below w.heap.size w w') Phi Gd ad (fun a' => ∀ w',Go.RowKit.Below w.heap.size w w' → E Gd ad a' w' → wpList P l.toArray Q (l.drop n) a' w') (l.take n) a):(Code.region id l.toArray true).wp P Q a w:=by
 have hb0:Go.RowKit.Below w.heap.size w { w with drawn:=w.drawn + 1 }:=(Go.RowKit.Below.refl _ _).drew
 have h:=h hb0
 simp only [Region.lexTailB,Bool.and_eq_true,decide_eq_true_eq] at hB
 obtain ⟨⟨⟨⟨hsel,hn⟩,hs⟩,hc⟩,hlex⟩:=hB
 have hn':n < l.length:=by simpa using hn
 have htl:(l.take n).length = n:=by simp;omega
 have hdl:(l.drop n).length = l.toArray.size - n:=by simp
 have inv0:HeadInv .any l.toArray n (Array.replicate l.toArray.size false) :=
  ⟨by simp,fun j oj _ hl => (by rw [getD_replicate_false] at hl;cases hl),fun t _ ht => getD_in (by simpa using ht) (getD_replicate_false _ _)⟩
 have H:=anyOrder_lex (md:=.any) (g:=l.toArray.size - n) hsel (fun listed inv i hi hun => tail_waits hs hc hn inv _ i rfl hi hun) (l.take n) 0 _ a (fun j hj => by
  have hj':j < n:=by rw [htl] at hj;exact hj
  simp [hj']) (by simpa using htl) inv0 (by rw [htl];exact hlex) h
 refine wp_region_any hm ?_
 have:=wpAny_of_anyOrder (Q':=Q) hLa (g:=l.toArray.size - n) (fun listed a' w' hw' he hL => by
  have:=wpAny_of_seq (md:=.any) (Q':=Q) (l.drop n) n listed a' w' (fun j => by simp [List.getElem?_drop]) (by rw [hdl];exact hL.1) (hL.2 w' hw' he)
  rwa [hdl] at this) _ _ _ _ hb0 ⟨fun d => hLa.1 _ _ _ _ (hE.1 d) hb0,hE.2.1,hE.2.2⟩ H
 rw [htl,show n + (l.toArray.size - n) = l.toArray.size by omega] at this
 exact this

end
end Go.Qg

namespace Go.Proofs.YtbiacfkiakddiaaGreat
open Go.RowKit Go.Fl
set_option maxRecDepth 100000 in
set_option maxHeartbeats 8000000 in
theorem s_part_any (vb tb tt:Nat) (SH:Int → Int → Nat) (X Y:Int) (n h:Nat) (hX:0 ≤ X ∧ X ≤ 12) (hY:0 ≤ Y ∧ Y ≤ 12) (hn1:1 ≤ n) (hn:n ≤ 12) (hh1:1 ≤ h) (hh:h ≤ 12) (w:World) (hT:Kept [(⟨tb,tt,none⟩,.int .i64 X),(⟨tb,tt + 1,none⟩,.int .i64 Y),(⟨tb,tt + 2,none⟩,.int .i64 (n:Int)),(⟨tb,tt + 3,none⟩,.int .i64 (h:Int))] [] w)
  (hshd:∀ x y w',Below w.heap.size w w' → Calls Tryz.prog 100 #[.pointer (some ⟨vb,0,none⟩),.int .i64 x,.int .i64 y] w' (Ret .f32 (SH x y) w')) :
  Calls Tryz.prog 109 #[.pointer (some ⟨vb,0,none⟩),.pointer (some ⟨tb,tt,none⟩)] w (fun e w' => e = .returned (.string ⟨(picB SH X Y n h).toArray⟩) ∧ Below w.heap.size w w'):=by
 go_enter Tryz.func109,Tryz.ntmps109
 have hkept:=hT
 have W1b:=Below.refl w.heap.size w
 clear hT
 have hK:=hkept;simp only [Kept,ka,kb,kc,kd,ke,kfa,kga] at hK
 obtain ⟨hX0,hX1⟩:=hX
 obtain ⟨hY0,hY1⟩:=hY
 have hws:tb < w.heap.size:=some_lt (a:=⟨tb,tt,none⟩) (by simp [hK])
 have hkW:=hkept
 go_wp2_with fail
 go_loopw [5,6] (fun v i wr => ∃ (k:Nat),k ≤ h ∧ i = .int .i64 (Y + (k:Int)) ∧ w.heap.size ≤ wr.heap.size ∧ wr.ownsRow w.heap.size 5 1 v (k * n) (bl (picB SH X Y n k)) ∧ Below w.heap.size w wr) (fun _ i _ => h + 12 - (intOf i).toNat)
 case atStart => exact ⟨0,by omega,by simp,by simp,by rw [Nat.zero_mul];exact World.ownsRow_lit w #[] 0 (Nat.le_refl _) (by unfold maxLen;omega) rfl,(Below.refl _ _).alloc (Nat.le_refl _) _⟩
 case round =>
  obtain ⟨k,hk,rfl,hsz,hown,Wb⟩:=hrel
  have hkept:=keep hkept Wb
  have Wrb:=below_step W1b Wb
  clear hK
  go_upto_region 3 with fail
  refine Qr.wp_below_all (by kernel_rfl) (by kernel_rfl) (fun _ _ _ => False) ?_
  repeat (refine Qr.walk_plain rfl fun K hK => ?_;apply Qr.one_det;(focus (intro w' hw';have HK:=keep hkept hw';simp only [Kept,ka,kb,kc,kd,ke,kfa,kga] at HK;go_simp;first | done | rfl));go_simp;refine hK _ ?_;clear hK K)
  refine Qr.walk_nil fun w3 hw3 => ?_
  have hkept:=keep hkept hw3
  have Wb:=below_step Wb hw3
  have Wrb:=below_step Wrb hw3
  have hown:=owns_below hown hw3
  have hsz:=Nat.le_trans hsz hw3.size
  clear hw3
  rename World => wr
  have hK:=hkept;simp only [Kept,ka,kb,kc,kd,ke,kfa,kga] at hK
  have hwrY:IntKind.i64.wrap (Y + (h:Int)) = Y + (h:Int):=by rw [IntKind.wrap_i64];omega
  simp only [hwrY]
  by_cases hlt:k < h
  ·have hlt':Y + (k:Int) < Y + (h:Int):=by omega
   have hkn:k * n ≤ 11 * 12:=Nat.mul_le_mul (by omega) hn
   simp only [decide_eq_true hlt']
   rename World => wo
   go_wp2_with fail
   go_loopw [5,7] (fun v i wr => ∃ (m:Nat),m ≤ n ∧ i = .int .i64 (X + (m:Int)) ∧ w.heap.size ≤ wr.heap.size ∧ wr.ownsRow w.heap.size 5 1 v (k * n + m) (bl (picB SH X Y n k ++ rowB SH (Y + (k:Int)) X m)) ∧ Below w.heap.size w wr) (fun _ i _ => n + 12 - (intOf i).toNat)
   case atStart => exact ⟨0,by omega,by simp,hsz,by simpa [rowB] using hown,Wb⟩
   case round =>
    obtain ⟨m,hm,rfl,hsz2,hown2,Wb2⟩:=hrel
    have hkept:=keep hkW Wb2
    have Wrb2:=below_step W1b Wb2
    clear hK
    go_upto_region 6 with fail
    refine Qr.wp_below_all (by kernel_rfl) (by kernel_rfl) (fun _ _ _ => False) ?_
    repeat (refine Qr.walk_plain rfl fun K hK => ?_;apply Qr.one_det;(focus (intro w' hw';have HK:=keep hkept hw';simp only [Kept,ka,kb,kc,kd,ke,kfa,kga] at HK;go_simp;first | done | rfl));go_simp;refine hK _ ?_;clear hK K)
    refine Qr.walk_nil fun w4 hw4 => ?_
    have hkept:=keep hkept hw4
    have Wb2:=below_step Wb2 hw4
    have Wrb2:=below_step Wrb2 hw4
    have hown2:=owns_below hown2 hw4
    have hsz2:=Nat.le_trans hsz2 hw4.size
    clear hw4
    rename World => wr
    have hK:=hkept;simp only [Kept,ka,kb,kc,kd,ke,kfa,kga] at hK
    have hwrX:IntKind.i64.wrap (X + (n:Int)) = X + (n:Int):=by rw [IntKind.wrap_i64];omega
    simp only [hwrX]
    by_cases hlt2:m < n
    ·have hlt2':X + (m:Int) < X + (n:Int):=by omega
     have hnx:Hid (picB SH X Y n k ++ rowB SH (Y + (k:Int)) X (m + 1) = (picB SH X Y n k ++ rowB SH (Y + (k:Int)) X m) ++ [bytU (byteI (SH (X + (m:Int)) (Y + (k:Int))))]):=by
      unfold Hid;rw [rowB,List.append_assoc]
     have hsh:=hshd (X + (m:Int)) (Y + (k:Int)) wr Wrb2
     obtain ⟨bb,hbb⟩:∃ bb,bb = bytU (byteI (SH (X + (m:Int)) (Y + (k:Int)))):=⟨_,rfl⟩
     have hbv:IntKind.u8.wrap (byteI (SH (X + (m:Int)) (Y + (k:Int)))) = (bb.toNat:Int):=by rw [hbb,bytU_nat];rfl
     rw [← hbb] at hnx
     clear hbb
     have hLn:k * n + m ≤ 1000:=by omega
     generalize picB SH X Y n k ++ rowB SH (Y + (k:Int)) X m = L at *
     generalize SH (X + (m:Int)) (Y + (k:Int)) = sv at *
     clear hshd hown Wb hkW
     go_wp2_with (first
      | (go_at_call 100;refine hsh.mono ?_;rintro _ w5 ⟨r,rfl,hr,hb1⟩;have Wb5:=below_step Wb2 hb1;have hown5:=owns_below hown2 hb1;have hkept:=keepT hkept hb1 rfl;clear hK;have hK:=hkept;simp only [Kept,ka,kb,kc,kd,ke,kfa,kga] at hK)
      | (go_at_call 181;refine (s_byte_any _ _).mono ?_;rintro _ w6 ⟨rfl,hb1⟩;rw [hr];have Wb6:=below_step Wb5 hb1;have hown6:=owns_below hown5 hb1;have hkept:=keepT hkept hb1 rfl;clear hK;have hK:=hkept;simp only [Kept,ka,kb,kc,kd,ke,kfa,kga] at hK)
      | (at_builtin;refine wp_appU w.heap.size rfl (.tmp 43) (.tmp 50) rfl _ _ L rfl (hown6.alloc _) w6.heap.size bb rfl (by simp) hLn (by have:=Wb6.size;simp;omega) ?_;intro v5 w7 hown7 hg7))
     refine ⟨⟨m + 1,by omega,by rw [show X + ((m + 1:Nat):Int) = X + (m:Int) + 1 by omega],Nat.le_trans Wb6.size (by have:=hg7.size;simp at this;omega),by rw [hnx.out];exact hown7,grown_below (Wb6.alloc Wb6.size _) (hown6.alloc _) hg7 (Nat.le_refl _)⟩,by simp [intOf];omega⟩
    ·obtain rfl:m = n:=by omega
     have hpic:Hid (picB SH X Y m (k + 1) = picB SH X Y m k ++ rowB SH (Y + (k:Int)) X m):=rfl
     have hH:=Lib.hid hown2
     clear hown2 hown hshd
     go_wp2_with fail
     refine ⟨⟨k + 1,by omega,by rw [show Y + ((k + 1:Nat):Int) = Y + (k:Int) + 1 by omega],hsz2,?_,Wb2⟩,by simp [intOf];omega⟩
     rw [hpic.out,Nat.succ_mul]
     exact hH.out
  ·obtain rfl:k = h:=by omega
   rcases row_form hown with ⟨rfl,h0⟩ | ⟨g,cap,rfl,_,_⟩
   ·have:=Nat.mul_pos hh1 hn1
    omega
   have hl:=picB_len SH X Y n k
   have hcv:=run_convert_bytes_back (P:=Tryz.prog) wr 247 9 5 ⟨g,0,none⟩ cap (picB SH X Y n k) Tryz.underlying247 Tryz.underlying5 Tryz.underlying9 (fun j hj => by
    have hc:=hown.cellAt j (by omega)
    rw [show (bl (picB SH X Y n k))[j]? = some (.int .u8 ((picB SH X Y n k)[j].toNat:Int)) by simp [bl,hj]] at hc
    rw [show (⟨g,0,none⟩:Addr).add j = ⟨g,j,none⟩ by cases j <;> simp [Addr.add]]
    simpa using hc)
   rw [hl] at hcv
   clear hown hshd
   go_wp2_with fail
   go_ret
   exact ⟨rfl,Wrb⟩
end Go.Proofs.YtbiacfkiakddiaaGreat

namespace Go.Proofs.YtbiacfkiakddiaaGreat
open Go.RowKit Go.Fl Go.ChangeShapes Go.WideShapes Go.ChangeAt
theorem okW_int {P:Program} {w:World} {r:Reach} {b0:Nat} {t:TypeId} {k:IntKind} {v:Value} (ht:P.underlying t = some (.int k)) (h:Value.okWide P w r b0 t v):∃ b,v = .int k b:=by
 simp only [Value.okWide,ht,Cell.okWide] at h
 cases v <;> simp_all [Cell.ok]

theorem trodAll_2 {H:Type} {enc:TypeId × Value → H} {P:Program} {w:World} {base:Nat} {spare:Nat → Bool} {held:Bool} {t0 t1:TypeId} {args:Array Value} {ds:List (DataW H)} {ps:List MemPlace} (h:DataW.TrodAll enc P w base spare held [t0,t1] args.toList ds ps) :
  ∃ v0 v1 d0 d1 p0 p1,args = #[v0,v1] ∧ ds = [d0,d1] ∧ ps = p0 ++ (p1 ++ []) ∧ DataW.Trod enc P w base spare held t0 v0 d0 p0 ∧ DataW.Trod enc P w base spare held t1 v1 d1 p1:=by
 obtain ⟨v0,vs0,d0,ds0,p0,q0,hargs,rfl,rfl,hd0,hrest⟩:=trodAll_cons h
 obtain ⟨v1,vs1,d1,ds1,p1,q1,rfl,rfl,rfl,hd1,hrest⟩:=trodAll_cons hrest
 obtain ⟨rfl,rfl,rfl⟩:=trodAll_nil hrest
 exact ⟨v0,v1,d0,d1,p0,p1,by cases args;simp_all,rfl,rfl,hd0,hd1⟩

end Go.Proofs.YtbiacfkiakddiaaGreat
