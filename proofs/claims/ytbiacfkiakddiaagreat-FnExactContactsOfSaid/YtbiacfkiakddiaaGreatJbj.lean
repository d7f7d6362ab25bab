/-
 Lemmas: C1,Rv,L2.
-/
import Derived.Test.YtbiacfkiakddiaaGreatJam
import Derived.Test.YtbiacfkiakddiaaGreatJbf
import Derived.Test.YtbiacfkiakddiaaGreatJbi
set_option linter.unusedVariables false
set_option linter.unusedSimpArgs false
namespace Go.Proofs.YtbiacfkiakddiaaGreat
open Go.RowKit Go.Fl
theorem int_info:(Tryz.prog.info? 2).map (fun i => (i.zero,i.size,i.bytes)) = some (some (.int .i64 0),1,8):=by kernel_rfl
/-- A list of integers. -/
abbrev il (xs:List Int):List Value:=xs.map fun i => .int .i64 i

/-- One integer is appended. -/
theorem wp_appI {ops:Array Oper} {rest:List Oper} {o:Oper} {a:Act} {Q:Exit → Act → World → Prop} {W:World} (base:Nat) (hgd:o.guard = none) (s x:Operand)
  (ho:o.op = .call { callee:=.builtin .append,args:=#[s,x],argTypes:=#[61,61] })
  (v:Value) (m:Nat) (xs:List Int) (hs:a.eval s = v) (hown:W.ownsRow base 2 1 v m (il xs)) (gn:Nat) (r:Int) (hx:a.eval x = .slice (some ⟨gn,0,none⟩) 1 1) (hcell:W.cell? ⟨gn,0,none⟩ = some (.int .i64 r))
  (hm:m ≤ 1000) (hbase:base ≤ W.heap.size)
  (h:∀ v' w',w'.ownsRow base 2 1 v' (m + 1) (il (xs ++ [r])) → W.grownBy w' v.ownBlock → wpList Tryz.prog ops Q rest (a.put o.dst v') w'):wpList Tryz.prog ops Q (o :: rest) a W:=by
 obtain ⟨i0,hi,hz0,hz1,hz2⟩:=info_parts int_info
 refine wpList_append_own _ hgd s x 61 ho base 2 i0 (.int .i64 0) 1 8 Tryz.underlying61 hi hz0 hz1 hz2 rfl (by decide) v m (il xs) hs hown ⟨gn,0,none⟩ 1 1 [.int .i64 r] hx rfl ?_ ?_ (by unfold maxLen;omega) (by omega) hbase ?_
 ·intro j u hu
  cases j with
  | zero => simp at hu;subst hu;exact hcell
  | succ j => simp at hu
 ·intro u hu
  simp at hu
  subst hu
  rfl
 ·intro v' w' h1 h2 _
  refine h v' w' ?_ h2
  simpa [il] using h1

/-- Points in memory. -/
def PtsIn (n g o:Nat) (P:Nat → Nat × Nat × Nat) (w:World):Prop:=∀ i,i < n → w.cell? ⟨g,o + i * 3,none⟩ = some (F1 (P i).1) ∧ w.cell? ⟨g,o + i * 3 + 1,none⟩ = some (F1 (P i).2.1) ∧ w.cell? ⟨g,o + i * 3 + 2,none⟩ = some (F1 (P i).2.2)
theorem PtsIn.keep {n g o:Nat} {P:Nat → Nat × Nat × Nat} {w w':World} (h:PtsIn n g o P w) (hb:Below w.heap.size w w'):PtsIn n g o P w':=fun i hi => by
 obtain ⟨h1,h2,h3⟩:=h i hi
 exact ⟨by rw [lift hb _ (by rw [h1];rfl)];exact h1,by rw [lift hb _ (by rw [h2];rfl)];exact h2,by rw [lift hb _ (by rw [h3];rfl)];exact h3⟩
def cn3 (p:Nat × Nat × Nat):Nat × Nat × Nat:=(cn .f32 p.1,cn .f32 p.2.1,cn .f32 p.2.2)
/-- The indices of the points that are near. -/
def conL (D:Nat × Nat × Nat → Nat) (near:Nat) (P:Nat → Nat × Nat × Nat):Nat → List Int
 | 0 => []
 | m + 1 => if lek .f32 (D (cn3 (P m))) near then conL D near P m ++ [(m:Int)] else conL D near P m
theorem conL_len (D:Nat × Nat × Nat → Nat) (near:Nat) (P:Nat → Nat × Nat × Nat):∀ m,(conL D near P m).length ≤ m
 | 0 => Nat.le_refl _
 | m + 1 => by
  have:=conL_len D near P m
  unfold conL
  split
  ·simp;omega
  ·omega
def conOk (v:Bool) (n near:Nat):Bool:=v && decide (n ≤ 256) && rightP near
/-- A list of integers of one's own. -/
def IlOwn (lo:Nat) (v:Value) (xs:List Int) (w:World):Prop:=(xs = [] ∧ v = .slice none 0 0) ∨ w.ownsRow lo 2 1 v xs.length (il xs)
def RetIl (ok:Bool) (L:List Int) (w:World) (e:Ending) (w':World):Prop:=∃ v,e = .returned (.tuple #[v,.bool ok]) ∧ IlOwn w.heap.size v (if ok then L else []) w' ∧ Below w.heap.size w w'
theorem retIl_no {ok:Bool} {L:List Int} {w w':World} (h:ok = false) (hb:Below w.heap.size w w'):RetIl ok L w (.returned (.tuple #[.slice none 0 0,.bool false])) w':=by
 subst h
 exact ⟨_,rfl,.inl ⟨rfl,rfl⟩,hb⟩
theorem retIl_yes {ok:Bool} {L:List Int} {v:Value} {w w':World} (h:ok = true) (hv:w'.ownsRow w.heap.size 2 1 v L.length (il L)) (hb:Below w.heap.size w w'):RetIl ok L w (.returned (.tuple #[v,.bool true])) w':=by
 subst h
 exact ⟨v,rfl,.inr hv,hb⟩


set_option maxRecDepth 100000 in
set_option maxHeartbeats 4000000 in
theorem contacts_any (ns:List PN) (hnum:∀ n ∈ ns,n.nums.length < 10000000) (nb no cap near n pg po pcap:Nat) (P:Nat → Nat × Nat × Nat) (bp pp:Option Addr) (w:World) (hbp:ns ≠ [] → bp = some ⟨nb,no,none⟩) (hsh:∀ i (h:i < ns.length),NodeIn ns[i] nb (no + i * 4) w) (hlen:ns.length < 10000000)
  (hpp:n ≠ 0 → pp = some ⟨pg,po,none⟩) (hP:PtsIn n pg po P w) (hn:n ≤ 1048576) :
  Calls Tryz.prog 34 #[.agg #[.slice bp ns.length cap],.slice pp n pcap,F1 near] w (RetIl (conOk (validF ns) n (cn .f32 near)) (conL (fun p => sizeF (topF ns p)) (cn .f32 near) P n) w):=by
 obtain ⟨ok,hOk⟩:∃ ok,Hid (ok = conOk (validF ns) n (cn .f32 near)):=⟨_,rfl⟩
 rw [← hOk.out]
 go_enter Tryz.func34,Tryz.ntmps34
 go_upto_region 1 with fail
 have W1b:Below w.heap.size w (w.alloc (.cells #[.slice bp ns.length cap] 36)):=(by repeat' (first | exact Below.refl _ _ | exact Nat.le_refl _ | refine below_drewN ?_ _ | refine Below.alloc ?_ (by first | (simp;done) | (simp;omega)) _ | refine Below.setCell ?_ (by first | (simp;done) | (simp;omega)) _ | refine below_step ?_ (by assumption)))
 
 have hkept:Kept [(⟨w.heap.size,0,none⟩,.slice bp ns.length cap)] [] (w.alloc (.cells #[.slice bp ns.length cap] 36)):=by
  simp only [Kept,ka,kb,kc,kd,ke,and_true,true_and];(first | (go_simp;done) | (simp [World.cell?,World.frozen?,World.alloc,Array.getElem?_push];done))
 generalize w.alloc (.cells #[.slice bp ns.length cap] 36) = W1 at *
 have hv:=valid_any ns hnum nb no cap bp W1 hbp (fun i h => (hsh i h).keep W1b) hlen
 have hK:=hkept;simp only [Kept,ka,kb,kc,kd,ke,and_true,true_and] at hK
 cases hval:validF ns
 ·have hno:Hid (ok = false):=by unfold Hid;rw [hOk.out,hval];rfl
  go_wp2_with (go_at_call 65;refine hv.mono ?_;rintro _ w2 ⟨rfl,hb1⟩;have W1b:=below_step W1b hb1;have hkept:=keepT hkept hb1 rfl;clear hK;have hK:=hkept;simp only [Kept,ka,kb,kc,kd,ke,and_true,true_and] at hK;rw [hval])
  exact bodyPost_ret (v:=.tuple #[.slice none 0 0,.bool false]) (by simp [results,Tryz.results34,go_sem,hK,World.cell?_setCell_other,World.cell?_setCell_same'];first | done | (rfl;done) | (constructor <;> rfl)) rfl (retIl_no hno.out W1b)
 by_cases hn2:n ≤ 256
 case neg =>
  have hno:Hid (ok = false):=by unfold Hid;rw [hOk.out,hval];unfold conOk;simp [hn2]
  have hn3:(256:Int) < (n:Int):=by omega
  go_wp2_with (first | (go_at_call 65;refine hv.mono ?_;rintro _ w2 ⟨rfl,hb1⟩;have W1b:=below_step W1b hb1;have hkept:=keepT hkept hb1 rfl;clear hK;have hK:=hkept;simp only [Kept,ka,kb,kc,kd,ke,and_true,true_and] at hK;rw [hval]) | (go_at_call 89;refine (step_any near _).mono ?_;rintro _ w3 ⟨rfl,hb1⟩;have W1b:=below_step W1b hb1;have hkept:=keepT hkept hb1 rfl;clear hK;have hK:=hkept;simp only [Kept,ka,kb,kc,kd,ke,and_true,true_and] at hK;rw [hst]))
  exact bodyPost_ret (v:=.tuple #[.slice none 0 0,.bool false]) (by simp [results,Tryz.results34,go_sem,hK,World.cell?_setCell_other,World.cell?_setCell_same'];first | done | (rfl;done) | (constructor <;> rfl)) rfl (retIl_no hno.out W1b)
 have hn3:¬ (256:Int) < (n:Int):=by omega
 cases hst:rightP (cn .f32 near)
 ·have hno:Hid (ok = false):=by unfold Hid;rw [hOk.out,hval];unfold conOk;rw [hst];simp
  go_wp2_with (first | (go_at_call 65;refine hv.mono ?_;rintro _ w2 ⟨rfl,hb1⟩;have W1b:=below_step W1b hb1;have hkept:=keepT hkept hb1 rfl;clear hK;have hK:=hkept;simp only [Kept,ka,kb,kc,kd,ke,and_true,true_and] at hK;rw [hval]) | (go_at_call 89;refine (step_any near _).mono ?_;rintro _ w3 ⟨rfl,hb1⟩;have W1b:=below_step W1b hb1;have hkept:=keepT hkept hb1 rfl;clear hK;have hK:=hkept;simp only [Kept,ka,kb,kc,kd,ke,and_true,true_and] at hK;rw [hst]))
  exact bodyPost_ret (v:=.tuple #[.slice none 0 0,.bool false]) (by simp [results,Tryz.results34,go_sem,hK,World.cell?_setCell_other,World.cell?_setCell_same'];first | done | (rfl;done) | (constructor <;> rfl)) rfl (retIl_no hno.out W1b)
 have hyes:Hid (ok = true):=by unfold Hid;rw [hOk.out,hval];unfold conOk;rw [hst];simp [hn2]
 obtain ⟨hl,hok⟩:=valid_ok hval
 have hne:ns ≠ []:=by intro h;rw [h] at hl;simp at hl
 have hb:=hbp hne
 subst hb
 have hpos:(0:Int) ≤ (n:Int):=by omega
 go_wp2_with (first | (go_at_call 65;refine hv.mono ?_;rintro _ w2 ⟨rfl,hb1⟩;have W1b:=below_step W1b hb1;have hkept:=keepT hkept hb1 rfl;clear hK;have hK:=hkept;simp only [Kept,ka,kb,kc,kd,ke,and_true,true_and] at hK;rw [hval]) | (go_at_call 89;refine (step_any near _).mono ?_;rintro _ w3 ⟨rfl,hb1⟩;have W1b:=below_step W1b hb1;have hkept:=keepT hkept hb1 rfl;clear hK;have hK:=hkept;simp only [Kept,ka,kb,kc,kd,ke,and_true,true_and] at hK;rw [hst]))
 have hsh3:ShapeIn ns w.heap.size 0 nb no cap w3:=⟨by simp [hK],fun i h => (hsh i h).keep W1b⟩
 have hP3:=hP.keep W1b
 have hat:∀ (x y z:Nat) (w':World),ShapeIn ns w.heap.size 0 nb no cap w' → Calls Tryz.prog 85 #[.pointer (some ⟨w.heap.size,0,none⟩),V3 x y z] w' (Ret .f32 (topF ns (cn .f32 x,cn .f32 y,cn .f32 z)) w'):=fun x y z w' h => at_any ns hok ⟨hl.1,by omega⟩ w.heap.size 0 nb no cap x y z w' h
 have hws:w.heap.size < w3.heap.size:=some_lt (a:=⟨w.heap.size,0,none⟩) (by simp [hK])
 clear hsh hP hbp hnum hv hK hb1 hok
 have W3b:Below w3.heap.size w3 (w3.alloc (.cells #[] 2)):=(Below.refl _ _).alloc (Nat.le_refl _) _
 go_loopw [8,27] (fun v i wr => ∃ (m:Nat),m ≤ n ∧ i = .int .i64 (m:Int) ∧ w3.heap.size ≤ wr.heap.size ∧ wr.ownsRow w3.heap.size 2 1 v (conL (fun p => sizeF (topF ns p)) (cn .f32 near) P m).length (il (conL (fun p => sizeF (topF ns p)) (cn .f32 near) P m)) ∧ Below w3.heap.size w3 wr) (fun _ i _ => n - (intOf i).toNat)
 case atStart => exact ⟨0,by omega,rfl,by simp,World.ownsRow_lit w3 #[] 0 (Nat.le_refl _) (by unfold maxLen;omega) rfl,W3b⟩
 case round =>
  obtain ⟨m,hm,rfl,hsz,hown,Wb⟩:=hrel
  clear W3b
  have hkept:=keep hkept Wb
  by_cases hlt:m < n
  ·have hlt':(m:Int) < (n:Int):=by omega
   have h0:(0:Int) ≤ (m:Int):=by omega
   have hppe:=hpp (by omega)
   subst hppe
   obtain ⟨p0,p1,p2⟩:=(hP3.keep Wb) m hlt
   have hsh4:=(hsh3.keep Wb).keep (show Below wr.heap.size wr (wr.alloc (.cells #[F1 (P m).1,F1 (P m).2.1,F1 (P m).2.2] 38)) from (Below.refl _ _).alloc (Nat.le_refl _) _)
   have hlen:=conL_len (fun p => sizeF (topF ns p)) (cn .f32 near) P m
   have hnext:Hid (conL (fun p => sizeF (topF ns p)) (cn .f32 near) P (m + 1) = if lek .f32 (sizeF (topF ns (cn3 (P m)))) (cn .f32 near) then conL (fun p => sizeF (topF ns p)) (cn .f32 near) P m ++ [(m:Int)] else conL (fun p => sizeF (topF ns p)) (cn .f32 near) P m):=rfl
   generalize conL (fun p => sizeF (topF ns p)) (cn .f32 near) P m = L at *
   unfold cn3 at hnext
   generalize (P m).1 = x at *
   generalize (P m).2.1 = y at *
   generalize (P m).2.2 = z at *
   clear hpp hP3 hsh3
   go_upto_region 7 with fail
   have Wb4:Below w3.heap.size w3 (wr.alloc (.cells #[F1 x,F1 y,F1 z] 38)):=Wb.alloc hsz _
   have hown4:(wr.alloc (.cells #[F1 x,F1 y,F1 z] 38)).ownsRow w3.heap.size 2 1 u8 L.length (il L):=hown.alloc _
   have hp4:Kept [(⟨wr.heap.size,0,none⟩,F1 x),(⟨wr.heap.size,1,none⟩,F1 y),(⟨wr.heap.size,2,none⟩,F1 z)] [] (wr.alloc (.cells #[F1 x,F1 y,F1 z] 38)):=by simp only [Kept,ka,kb,kc,kd,ke,and_true,true_and];simp
   clear Wb hown p0 p1 p2 hkept
   generalize wr.alloc (.cells #[F1 x,F1 y,F1 z] 38) = w4 at *
   have hkept:=hp4
   clear hp4
   have hK:=hkept;simp only [Kept,ka,kb,kc,kd,ke,and_true,true_and] at hK
   go_wp2_with (first
    | (go_at_call 85;refine (hat _ _ _ _ hsh4).mono ?_;rintro _ w5 ⟨r,rfl,hr,hb1⟩;have Wb5:=below_step Wb4 hb1;have hown5:=owns_below hown4 hb1;have hkept:=keepT hkept hb1 rfl;clear hK;have hK:=hkept;simp only [Kept,ka,kb,kc,kd,ke,and_true,true_and] at hK)
    | (go_at_call 90;refine (size_any _ _).mono ?_;rintro _ w6 ⟨r1,rfl,hr1,hb6⟩;have Wb6:=below_step Wb5 hb6;have hown6:=owns_below hown5 hb6)
    | (at_builtin;refine wp_appI w3.heap.size rfl (.tmp 37) (.tmp 39) rfl _ _ L rfl (hown6.alloc _) w6.heap.size (m:Int) rfl (by simp) (by omega) (by have:=Wb6.size;simp;omega) ?_;intro v5 w5 hown5 hg5))
   ·rename_i hb
    have hnx:conL (fun p => sizeF (topF ns p)) (cn .f32 near) P (m + 1) = L ++ [(m:Int)]:=by
     rw [hnext.out,← hr,← hr1,if_pos (by unfold lek;rw [order_cn,Bool.or_eq_true];exact hb)]
    exact ⟨⟨m + 1,by omega,by simp,Nat.le_trans Wb6.size (by have:=hg5.size;simp at this;omega),by rw [hnx];simpa using hown5,grown_below (Wb6.alloc Wb6.size _) (hown6.alloc _) hg5 (Nat.le_refl _)⟩,by simp [intOf];omega⟩
   ·rename_i hb
    have hnx:conL (fun p => sizeF (topF ns p)) (cn .f32 near) P (m + 1) = L:=by
     rw [hnext.out,← hr,← hr1,if_neg (by unfold lek;rw [order_cn,hb.1,hb.2];decide)]
    exact ⟨⟨m + 1,by omega,by simp,Wb6.size,by rw [hnx];exact hown6,Wb6⟩,by simp [intOf];omega⟩
  ·obtain rfl:m = n:=by omega
   have hH:=Lib.hid hown
   clear hown
   have hK:=hkept;simp only [Kept,ka,kb,kc,kd,ke,and_true,true_and] at hK
   go_wp2_with fail
   exact bodyPost_ret (v:=.tuple #[_,.bool true]) (by simp [results,Tryz.results34,go_sem,hK,World.cell?_setCell_other,World.cell?_setCell_same'];first | done | (rfl;done) | (constructor <;> rfl)) rfl (retIl_yes hyes.out (World.ownsRow.mono hH.out (Nat.le_of_lt hws)) (below_step W1b Wb))
end Go.Proofs.YtbiacfkiakddiaaGreat

namespace Go.Proofs.YtbiacfkiakddiaaGreat
open Go.RowKit Go.Fl Go.ChangeShapes Go.WideShapes Go.Deep
theorem pts_of {Pp:Nat → Nat × Nat × Nat → Prop}:∀ n,(∀ i,i < n → ∃ x,Pp i x) → ∃ P:Nat → Nat × Nat × Nat,∀ i,i < n → Pp i (P i)
 | 0,_ => ⟨fun _ => (0,0,0),fun i h => by omega⟩
 | n + 1,h => by
  obtain ⟨P,hP⟩:=pts_of n (fun i hi => h i (by omega))
  obtain ⟨x,hx⟩:=h n (by omega)
  refine ⟨fun i => if i = n then x else P i,fun i hi => ?_⟩
  by_cases e:i = n
  ·subst e;simpa using hx
  ·simp only [if_neg e];exact hP i (by omega)

set_option maxRecDepth 100000 in
/-- A list of points that came in. -/
theorem open_vecs {H:Type} {enc:TypeId × Value → H} {w:World} {base b0:Nat} {r:Reach} {spare:Nat → Bool} {held:Bool} {v:Value} {d:DataW H} {p:List MemPlace} (hv:Value.okWide Tryz.prog w r b0 59 v) (h:DataW.Trod enc Tryz.prog w base spare held 59 v d p) :
  ∃ (n pg po cap:Nat) (P:Nat → Nat × Nat × Nat) (pp:Option Addr),v = .slice pp n cap ∧ (n:Int) ≤ 9223372036854775807 ∧ (n ≠ 0 → pp = some ⟨pg,po,none⟩) ∧ PtsIn n pg po P w:=by
 obtain ⟨a,len,cap,rfl⟩:=okWide_slice Tryz.underlying59 hv
 obtain ⟨fuel,hf⟩:=h
 have hf2:DataW.trod enc Tryz.prog w base spare held fuel 59 [.slice a len cap] = some (d,p):=hf
 rcases open_slice Tryz.underlying59 hf2 with ⟨e,-⟩ | ⟨a,len,cap,m,n,D,Pl,e,-,hlc,hcm,hmm,-,hel⟩
 ·injection e with e
  injection e with e1 e2 e3
  subst e1;subst e2;subst e3
  exact ⟨0,0,0,0,fun _ => (0,0,0),none,rfl,by omega,fun h => absurd rfl h,fun i hi => by omega⟩
 ·injection e with e
  injection e with e1 e2 e3
  subst e1;subst e2;subst e3
  have hm:len ≤ m:=by rw [hmm];split <;> omega
  have hC:Tryz.prog.cellsOf 27 = 3:=by kernel_rfl
  have hx:∀ i,i < len → ∃ q:Nat × Nat × Nat,a.spot = none ∧ w.cell? ⟨a.block,a.off + i * 3,none⟩ = some (F1 q.1) ∧ w.cell? ⟨a.block,a.off + i * 3 + 1,none⟩ = some (F1 q.2.1) ∧ w.cell? ⟨a.block,a.off + i * 3 + 2,none⟩ = some (F1 q.2.2):=fun i hi => by
   obtain ⟨cs',hc,ht⟩:=hel i (by omega)
   rw [hC] at hc
   obtain ⟨-,hcl,hat⟩:=World.cells?_some hc
   obtain ⟨c0,c1,c2,rfl⟩:=three hcl
   obtain ⟨x,y,z,rfl,rfl,rfl⟩:=trod_vec ht
   have hc0:=hat 0 (by omega)
   have hc1:=hat 1 (by omega)
   have hc2:=hat 2 (by omega)
   obtain ⟨cs0,hz,-⟩:=hel 0 (by omega)
   rw [hC] at hz
   obtain ⟨-,hzl,hzat⟩:=World.cells?_some hz
   have hz0:=hzat 0 (by omega)
   have hspot:a.spot = none:=by
    obtain ⟨z0,z1,z2,rfl⟩:=three hzl
    have:=World.cell?_spot (show w.cell? ((a.add (0 * 3)).add 0) = some z0 from hz0)
    simpa [Addr.add] using this
   have had:∀ j,(a.add (i * 3)).add j = ⟨a.block,a.off + i * 3 + j,none⟩:=fun j => by exact add_off a (i * 3) j hspot
   rw [had] at hc0 hc1 hc2
   rw [Nat.add_zero] at hc0
   exact ⟨(x,y,z),hspot,hc0,hc1,hc2⟩
  obtain ⟨P,hP⟩:=pts_of len hx
  refine ⟨len,a.block,a.off,cap,P,some a,rfl,?_,fun hne => ?_,fun i hi => (hP i hi).2⟩
  ·have:cap ≤ maxLen:=by omega
   unfold maxLen at this
   omega
  ·have:=(hP 0 (by omega)).1
   obtain ⟨b,o,s⟩:=a
   simp only at this
   rw [this]
end Go.Proofs.YtbiacfkiakddiaaGreat

namespace Go.Proofs.YtbiacfkiakddiaaGreat
open Go.RowKit Go.Fl
theorem arr_set {w:World} {g:Nat} {A:Array Value} {T:TypeId} (h:w.heap[g]? = some (.cells A T (0,0))) (k:Nat) (v:Value):(w.setCell ⟨g,k,none⟩ v).heap[g]? = some (.cells (A.setIfInBounds k v) T (0,0)):=by
 simp only [World.setCell,Array.getElem?_modify,if_true,h,Option.map_some]
 rfl
theorem arr_cell {w:World} {g:Nat} {A:Array Value} {T:TypeId} (h:w.heap[g]? = some (.cells A T (0,0))) (k:Nat):w.cell? ⟨g,k,none⟩ = A[k]?:=by
 simp [World.cell?,h]
theorem arr_frozen {w:World} {g:Nat} {A:Array Value} {T:TypeId} (h:w.heap[g]? = some (.cells A T (0,0))) (k:Nat):w.frozen? ⟨g,k,none⟩ = false:=by
 simp [World.frozen?,h]

theorem make_floats (n:Nat) (hn:(n:Int) ≤ 1048576) (w:World):∃ A:Array Value,A.size = n ∧ (Instr.makeSlice 140 (.int .i64 (n:Int)) (.int .i64 (n:Int))).run Tryz.prog w = .ok (.slice (some ⟨w.heap.size,0,none⟩) n n) (w.alloc (.cells A 25)):=by
 obtain ⟨i0,hi,hz0,hz1,hz2⟩:=info_parts float_info
 have h:=run_make (P:=Tryz.prog) w 140 25 i0 (.float .f32 0) Tryz.underlying140 hi hz0 .i64 .i64 n n (by omega) (by omega) (by rw [hz2];omega) (by omega)
 rw [hz1] at h
 refine ⟨_,?_,h⟩
 simp [madeCells]

set_option maxRecDepth 100000 in
set_option maxHeartbeats 2000000 in
theorem to_floats (xs:List Nat) (hlen:(xs.length:Int) ≤ 1048576) (bp:Option Addr) (bv ov cap:Nat) (w:World) (h1:xs ≠ [] → bp = some ⟨bv,ov,none⟩) (h2:∀ i (h:i < xs.length),w.cell? ⟨bv,ov + i,none⟩ = some (.float .f32 xs[i])) :
  Calls Tryz.prog 203 #[.slice bp xs.length cap] w (fun e w' => ∃ g,e = .returned (.slice (some ⟨g,0,none⟩) xs.length xs.length) ∧ (∀ i (h:i < xs.length),w'.cell? ⟨g,0 + i,none⟩ = some (.float .f32 xs[i])) ∧ w.heap.size ≤ g ∧ Below w.heap.size w w'):=by
 obtain ⟨A,hA,hmk⟩:=make_floats xs.length hlen w
 go_enter Tryz.func203,Tryz.ntmps203
 go_wp2_with fail
 have W1b:Below w.heap.size w (w.alloc (.cells A 25)):=(by repeat' (first | exact Below.refl _ _ | exact Nat.le_refl _ | refine below_drewN ?_ _ | refine Below.alloc ?_ (by first | (simp;done) | (simp;omega)) _ | refine Below.setCell ?_ (by first | (simp;done) | (simp;omega)) _ | refine below_step ?_ (by assumption)))

 have hpar:=heap_alloc_at w (.cells A 25)
 generalize w.alloc (.cells A 25) = W1 at *
 clear hmk
 go_loopw [4] (fun i wr => ∃ (m:Nat) (A:Array Value),m ≤ xs.length ∧ i = .int .i64 (m:Int) ∧ A.size = xs.length ∧ wr.heap[w.heap.size]? = some (.cells A 25 (0,0)) ∧ (∀ k (h:k < xs.length),k < m → A[k]? = some (.float .f32 xs[k])) ∧ Below w.heap.size w wr) (fun i _ => xs.length - (intOf i).toNat)
 case atStart => exact ⟨0,A,by omega,rfl,hA,hpar,fun k _ h => by omega,W1b⟩
 case round =>
  obtain ⟨m,A',hm,rfl,hA',hpar',hk,Wb⟩:=hrel
  clear hpar W1b
  by_cases hlt:m < xs.length
  ·have hlt':(m:Int) < (xs.length:Int):=by omega
   have h0:(0:Int) ≤ (m:Int):=by omega
   have hne:xs ≠ []:=by intro h;rw [h] at hlt;simp at hlt
   have hbp:=h1 hne
   subst hbp
   have hc:wr.cell? ⟨bv,ov + m,none⟩ = some (.float .f32 xs[m]):=by rw [lift Wb _ (by rw [h2 m hlt];rfl)];exact h2 m hlt
   have hold:wr.cell? ⟨w.heap.size,m,none⟩ = some (A'[m]'(by omega)):=by rw [arr_cell hpar',Array.getElem?_eq_getElem (by omega)]
   have hfz:=arr_frozen hpar'
   have hset:=arr_set hpar' m (.float .f32 xs[m])
   have hb3:=Wb.setCell (p:=⟨w.heap.size,m,none⟩) (Nat.le_refl _) (Value.float .f32 xs[m])
   have hnew:Hid (∀ k (h:k < xs.length),k < m + 1 → (A'.setIfInBounds m (.float .f32 xs[m]))[k]? = some (.float .f32 xs[k])):=fun k h hkm => by
    by_cases hkm':k = m
    ·subst hkm'
     rw [Array.getElem?_setIfInBounds_self_of_lt (by omega)]
    ·rw [Array.getElem?_setIfInBounds_ne (by omega)]
     exact hk k h (by omega)
   have hH:=Lib.hid hset
   clear hk hset hpar' h2 h1
   generalize xs[m] = xv at hc hb3 hH hnew
   go_wp2_with fail
   exact ⟨⟨m + 1,_,by omega,by simp,by simpa using hA',hH.out,hnew.out,hb3⟩,by simp [intOf];omega⟩
  ·obtain rfl:m = xs.length:=by omega
   have hH:=Lib.hid hk
   have hP:=Lib.hid hpar'
   clear hk hpar' h1 h2
   go_wp2_with fail
   go_ret
   exact ⟨w.heap.size,rfl,fun i hi => by rw [Nat.zero_add,arr_cell hP.out];exact hH.out i hi hi,Nat.le_refl _,Wb⟩
end Go.Proofs.YtbiacfkiakddiaaGreat
