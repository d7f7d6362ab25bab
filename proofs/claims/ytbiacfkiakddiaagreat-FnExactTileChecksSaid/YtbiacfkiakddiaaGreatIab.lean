/-
 Lemmas: T0,T1,T2.
-/
import Derived.Test.YtbiacfkiakddiaaGreatIaa
import Derived.Laws.Strings
set_option linter.unusedVariables false
set_option linter.unusedSimpArgs false
namespace Go.Proofs.YtbiacfkiakddiaaGreat
open Go.RowKit Go.Fl
/-- The check number of bytes. -/
def chk:Int → List UInt8 → Int
 | n,[] => n
 | n,b :: bs => chk ((659 * n + (b.toNat:Int) + 29) % 65003) bs
theorem chk_app (n:Int) (a b:List UInt8):chk n (a ++ b) = chk (chk n a) b:=by
 induction a generalizing n with
 | nil => rfl
 | cons x a ih => exact ih _
theorem chk_in (L:List UInt8):∀ n,0 ≤ n ∧ n < 65003 → 0 ≤ chk n L ∧ chk n L < 65003:=by
 induction L with
 | nil => exact fun n h => h
 | cons x L ih => exact fun n h => ih _ ⟨Int.emod_nonneg _ (by decide),Int.emod_lt_of_pos _ (by decide)⟩
theorem chk_next (n:Int) (L:List UInt8) (m:Nat) (h:m < L.length):chk n (L.take (m + 1)) = (659 * chk n (L.take m) + (L[m].toNat:Int) + 29) % 65003:=by
 rw [List.take_succ_eq_append_getElem h,chk_app]
 rfl
theorem run_byte (w:World) (t:TypeId) (L:List UInt8) (m:Nat) (h:m < L.length) (ht:Tryz.prog.underlying t = some .string) :
  (Instr.index t (.string ⟨L.toArray⟩) (.int .i64 (m:Int))).run Tryz.prog w = .ok (.int .u8 (L[m].toNat:Int)) w:=by
 rw [run_index_string w t _ _ _ ht,dif_pos ⟨by omega,by show (m:Int) < ((L.toArray.size:Nat):Int);simp;omega⟩]
 rfl

set_option maxRecDepth 100000 in
set_option maxHeartbeats 1000000 in
theorem s_check_any (n:Int) (hn:0 ≤ n ∧ n < 65003) (L:List UInt8) (hL:L.length ≤ 1000000) (w:World) :
  Calls Tryz.prog 114 #[.int .i64 n,.string ⟨L.toArray⟩] w (fun e w' => e = .returned (.int .i64 (chk n L)) ∧ w = w'):=by
 have hsz:(⟨L.toArray⟩:ByteArray).size = L.length:=by show L.toArray.size = L.length;simp
 go_enter Tryz.func114,Tryz.ntmps114
 go_wp2_with fail
 go_loopw [0,5] (fun q i wr => ∃ (m:Nat),m ≤ L.length ∧ i = .int .i64 (m:Int) ∧ q = .int .i64 (chk n (L.take m)) ∧ wr = w) (fun _ i _ => L.length - (intOf i).toNat)
 case atStart => exact ⟨0,by omega,rfl,by simp [chk],rfl⟩
 case round =>
  obtain ⟨m,hm,rfl,rfl,rfl⟩:=hrel
  by_cases hlt:m < L.length
  ·have hlt':(m:Int) < (L.length:Int):=by omega
   have hrun:=run_byte wr 9 L m hlt Tryz.underlying9
   have hnx:=Lib.hid (chk_next n L m hlt)
   obtain ⟨hc1,hc2⟩:=chk_in (L.take m) n hn
   have hb:=(L[m]).toNat_lt
   generalize chk n (L.take m) = c at *
   generalize (L[m]).toNat = b at *
   go_wp2_with fail
   exact ⟨⟨m + 1,by omega,by simp,by rw [hnx.out],trivial⟩,by simp [intOf];omega⟩
  ·obtain rfl:m = L.length:=by omega
   go_wp2_with fail
   go_ret
   simp

set_option maxRecDepth 100000 in
set_option maxHeartbeats 1000000 in
theorem check_any (n:Int) (hn:0 ≤ n ∧ n < 65003) (L:List UInt8) (hL:L.length ≤ 1000000) (w:World) :
  Calls Tryz.prog 116 #[.int .i64 n,.string ⟨L.toArray⟩] w (fun e w' => e = .returned (.tuple #[.int .i64 (chk n L),.bool true]) ∧ w = w'):=by
 have hsz:(⟨L.toArray⟩:ByteArray).size = L.length:=by show L.toArray.size = L.length;simp
 have hin:(decide (0 ≤ n) && decide (n ≤ 65002)) = true:=by simp;omega
 go_enter Tryz.func116,Tryz.ntmps116
 go_wp2_with (go_at_call 74;refine (in_any _ _ _ _).mono ?_;rintro _ w5 ⟨rfl,rfl⟩;rw [hin])
 go_loopw [0,12] (fun q i wr => ∃ (m:Nat),m ≤ L.length ∧ i = .int .i64 (m:Int) ∧ q = .int .i64 (chk n (L.take m)) ∧ wr = w) (fun _ i _ => L.length - (intOf i).toNat)
 case atStart => exact ⟨0,by omega,rfl,by simp [chk],rfl⟩
 case round =>
  obtain ⟨m,hm,rfl,rfl,rfl⟩:=hrel
  by_cases hlt:m < L.length
  ·have hlt':(m:Int) < (L.length:Int):=by omega
   have hrun:=run_byte wr 9 L m hlt Tryz.underlying9
   have hnx:=Lib.hid (chk_next n L m hlt)
   obtain ⟨hc1,hc2⟩:=chk_in (L.take m) n hn
   have hb:=(L[m]).toNat_lt
   generalize chk n (L.take m) = c at *
   generalize (L[m]).toNat = b at *
   go_wp2_with fail
   exact ⟨⟨m + 1,by omega,by simp,by rw [hnx.out],trivial⟩,by simp [intOf];omega⟩
  ·obtain rfl:m = L.length:=by omega
   go_wp2_with fail
   exact bodyPost_ret (v:=.tuple #[.int .i64 (chk n L),.bool true]) (by simp [results,Tryz.results116,go_sem];first | done | (rfl;done) | (repeat' constructor)) rfl ⟨rfl,rfl⟩
end Go.Proofs.YtbiacfkiakddiaaGreat

namespace Go.Proofs.YtbiacfkiakddiaaGreat
open Go.RowKit Go.Fl
/-- A tile: its place,its width,its height. -/
abbrev Tl:=Int × Int × Int × Int
abbrev b4 (t:Tl):List Value:=[.int .i64 t.1,.int .i64 t.2.1,.int .i64 t.2.2.1,.int .i64 t.2.2.2]
def ft (ts:List Tl):List Value:=ts.flatMap b4
theorem ft_app (ts:List Tl) (t:Tl):ft (ts ++ [t]) = ft ts ++ b4 t:=by simp [ft]
theorem ft_cons (t:Tl) (ts:List Tl):ft (t :: ts) = .int .i64 t.1 :: .int .i64 t.2.1 :: .int .i64 t.2.2.1 :: .int .i64 t.2.2.2 :: ft ts:=rfl
theorem ft_get:∀ (ts:List Tl) (i:Nat) (h:i < ts.length),(ft ts)[i * 4]? = some (.int .i64 ts[i].1) ∧ (ft ts)[i * 4 + 1]? = some (.int .i64 ts[i].2.1) ∧ (ft ts)[i * 4 + 2]? = some (.int .i64 ts[i].2.2.1) ∧ (ft ts)[i * 4 + 3]? = some (.int .i64 ts[i].2.2.2)
 | t :: ts,0,_ => ⟨rfl,rfl,rfl,rfl⟩
 | t :: ts,i + 1,h => by
  have:=ft_get ts i (by simpa using h)
  rw [ft_cons,show (i + 1) * 4 = i * 4 + 1 + 1 + 1 + 1 by omega]
  simpa using this

/-- The tiles of a row from x on,of a picture from y on. -/
def rowT (nx ny s y:Int):Nat → Int → List Tl
 | 0,_ => []
 | f + 1,x => if x < nx then (x,y,min s (nx - x),min s (ny - y)) :: rowT nx ny s y f (x + s) else []
def tilesT (nx ny s:Int):Nat → Int → List Tl
 | 0,_ => []
 | f + 1,y => if y < ny then rowT nx ny s y 12 0 ++ tilesT nx ny s f (y + s) else []
theorem rowT_end (nx ny s y:Int) (f:Nat) (x:Int) (h:¬ x < nx):rowT nx ny s y f x = []:=by
 cases f with
 | zero => rfl
 | succ f => rw [rowT,if_neg h]
theorem tilesT_end (nx ny s:Int) (f:Nat) (y:Int) (h:¬ y < ny):tilesT nx ny s f y = []:=by
 cases f with
 | zero => rfl
 | succ f => rw [tilesT,if_neg h]
theorem rowT_len (nx ny s y:Int):∀ f x,(rowT nx ny s y f x).length ≤ f
 | 0,_ => Nat.le_refl _
 | f + 1,x => by
  have:=rowT_len nx ny s y f (x + s)
  rw [rowT]
  split
  ·simp;omega
  ·simp
theorem tilesT_len (nx ny s:Int):∀ f y,(tilesT nx ny s f y).length ≤ f * 12
 | 0,_ => Nat.le_refl _
 | f + 1,y => by
  have h1:=tilesT_len nx ny s f (y + s)
  have h2:=rowT_len nx ny s y 12 0
  rw [tilesT]
  split
  ·rw [List.length_append];omega
  ·simp
/-- A tile that lies in the picture. -/
def InPic (nx ny:Int) (t:Tl):Prop:=(0 ≤ t.1 ∧ t.1 < nx) ∧ (0 ≤ t.2.1 ∧ t.2.1 < ny) ∧ (1 ≤ t.2.2.1 ∧ t.2.2.1 ≤ nx - t.1) ∧ 1 ≤ t.2.2.2 ∧ t.2.2.2 ≤ ny - t.2.1
theorem rowT_in {nx ny s y:Int} (hs:1 ≤ s) (hy:0 ≤ y ∧ y < ny):∀ f x,0 ≤ x → ∀ t ∈ rowT nx ny s y f x,InPic nx ny t
 | 0,_,_,t,ht => by simp [rowT] at ht
 | f + 1,x,hx,t,ht => by
  rw [rowT] at ht
  split at ht
  ·rename_i h
   rcases List.mem_cons.1 ht with rfl | ht
   ·unfold InPic
    refine ⟨⟨hx,h⟩,hy,⟨?_,Int.min_le_right _ _⟩,?_,Int.min_le_right _ _⟩
    ·show 1 ≤ min s (nx - x);omega
    ·show 1 ≤ min s (ny - y);omega
   ·exact rowT_in hs hy f (x + s) (by omega) t ht
  ·simp at ht
theorem tilesT_in {nx ny s:Int} (hs:1 ≤ s):∀ f y,0 ≤ y → ∀ t ∈ tilesT nx ny s f y,InPic nx ny t
 | 0,_,_,t,ht => by simp [tilesT] at ht
 | f + 1,y,hy,t,ht => by
  rw [tilesT] at ht
  split at ht
  ·rename_i h
   rcases List.mem_append.1 ht with ht | ht
   ·exact rowT_in hs ⟨hy,h⟩ 12 0 (Int.le_refl _) t ht
   ·exact tilesT_in hs f (y + s) (by omega) t ht
  ·simp at ht

theorem tile_info:(Tryz.prog.info? 99).map (fun i => (i.zero,i.size,i.bytes)) = some (some (.agg #[.int .i64 0,.int .i64 0,.int .i64 0,.int .i64 0]),4,32):=by kernel_rfl
theorem b4_one {t:Tl} {u:Value} (h:u ∈ b4 t):u.oneCell' = true:=by
 simp only [List.mem_cons,List.not_mem_nil,or_false] at h
 rcases h with rfl | rfl | rfl | rfl <;> rfl

theorem b4_heap {w:World} {g:Nat} {X Y p q:Int} {T:TypeId} (h:w.heap[g]? = some (.cells #[.int .i64 X,.int .i64 Y,.int .i64 p,.int .i64 q] T (0,0))) (j:Nat) (u:Value) (hu:(b4 (X,Y,p,q))[j]? = some u):w.cell? ⟨g,j,none⟩ = some u:=by
 have hj:=(List.getElem?_eq_some_iff.1 hu).1
 simp only [List.length_cons,List.length_nil] at hj
 rcases (show j = 0 ∨ j = 1 ∨ j = 2 ∨ j = 3 by omega) with rfl | rfl | rfl | rfl <;> (injection hu with hu;subst hu;simp [World.cell?,h])
theorem b4_new (w:World) (X Y p q:Int) (T:TypeId) (j:Nat) (u:Value) (hu:(b4 (X,Y,p,q))[j]? = some u):(w.alloc (.cells #[.int .i64 X,.int .i64 Y,.int .i64 p,.int .i64 q] T)).cell? ⟨w.heap.size,j,none⟩ = some u :=
 b4_heap (T:=T) (show (w.heap.push (.cells #[.int .i64 X,.int .i64 Y,.int .i64 p,.int .i64 q] T (0,0)))[w.heap.size]? = _ by simp) j u hu

/-- One tile is appended. -/
theorem wp_appT {ops:Array Oper} {rest:List Oper} {o:Oper} {a:Act} {Q:Exit → Act → World → Prop} {W:World} (base:Nat) (hgd:o.guard = none) (s x:Operand)
  (ho:o.op = .call { callee:=.builtin .append,args:=#[s,x],argTypes:=#[167,167] })
  (v:Value) (m:Nat) (ts:List Tl) (hs:a.eval s = v) (hown:W.ownsRow base 99 4 v m (ft ts)) (gn c:Nat) (t:Tl) (hx:a.eval x = .slice (some ⟨gn,0,none⟩) 1 c) (hcell:∀ j u,(b4 t)[j]? = some u → W.cell? ⟨gn,j,none⟩ = some u)
  (hm:m ≤ 1000) (hbase:base ≤ W.heap.size)
  (h:∀ v' w',w'.ownsRow base 99 4 v' (m + 1) (ft (ts ++ [t])) → W.grownBy w' v.ownBlock → wpList Tryz.prog ops Q rest (a.put o.dst v') w'):wpList Tryz.prog ops Q (o :: rest) a W:=by
 obtain ⟨i0,hi,hz0,hz1,hz2⟩:=info_parts tile_info
 refine wpList_append_own _ hgd s x 167 ho base 99 i0 (.agg #[.int .i64 0,.int .i64 0,.int .i64 0,.int .i64 0]) 4 32 Tryz.underlying167 hi hz0 hz1 hz2 rfl (by decide) v m (ft ts) hs hown ⟨gn,0,none⟩ 1 c (b4 t) hx rfl ?_ (fun u hu => b4_one hu) (by unfold maxLen;omega) (by omega) hbase ?_
 ·intro j u hu
  have:=hcell j u hu
  rw [show (⟨gn,0,none⟩:Addr).add j = ⟨gn,j,none⟩ by cases j <;> simp [Addr.add]];exact this
 ·intro v' w' h1 h2 _
  refine h v' w' ?_ h2
  rw [ft_app]
  exact h1

/-- Tiles that lie in memory. -/
def TlsIn (ts:List Tl) (g o:Nat) (w:World):Prop:=∀ i (h:i < ts.length),Kept [(⟨g,o + i * 4,none⟩,.int .i64 ts[i].1),(⟨g,o + i * 4 + 1,none⟩,.int .i64 ts[i].2.1),(⟨g,o + i * 4 + 2,none⟩,.int .i64 ts[i].2.2.1),(⟨g,o + i * 4 + 3,none⟩,.int .i64 ts[i].2.2.2)] [] w
theorem TlsIn.keep {ts:List Tl} {g o:Nat} {w w':World} (h:TlsIn ts g o w) (hb:Below w.heap.size w w'):TlsIn ts g o w':=fun i hi => Go.Fl.keep (h i hi) hb
theorem row_tiles {w:World} {lo n:Nat} {v:Value} {ts:List Tl} (h:w.ownsRow lo 99 4 v n (ft ts)) (hn:n = ts.length):∃ p g o cap,v = .slice p ts.length cap ∧ (ts ≠ [] → p = some ⟨g,o,none⟩) ∧ TlsIn ts g o w:=by
 subst hn
 rcases row_form h with ⟨rfl,h0⟩ | ⟨g,cap,rfl,_,_⟩
 ·exact ⟨none,0,0,0,by rw [h0],fun hne => absurd (List.length_eq_zero_iff.1 h0) hne,fun i hi => by omega⟩
 ·refine ⟨_,g,0,cap,rfl,fun _ => rfl,fun i hi => ?_⟩
  have h0:=h.cellAt (i * 4) (by omega)
  have h1:=h.cellAt (i * 4 + 1) (by omega)
  have h2:=h.cellAt (i * 4 + 2) (by omega)
  have h3:=h.cellAt (i * 4 + 3) (by omega)
  obtain ⟨g0,g1,g2,g3⟩:=ft_get ts i hi
  rw [g0] at h0;rw [g1] at h1;rw [g2] at h2;rw [g3] at h3
  rw [Nat.zero_add]
  have e0:w.cell? ⟨g,i * 4,none⟩ = some (.int .i64 ts[i].1):=by simpa using h0
  have e1:w.cell? ⟨g,i * 4 + 1,none⟩ = some (.int .i64 ts[i].2.1):=by simpa using h1
  have e2:w.cell? ⟨g,i * 4 + 2,none⟩ = some (.int .i64 ts[i].2.2.1):=by simpa using h2
  have e3:w.cell? ⟨g,i * 4 + 3,none⟩ = some (.int .i64 ts[i].2.2.2):=by simpa using h3
  simp only [Kept,ka,kb,kc,kd,ke,kfa,kga]
  exact ⟨e0,e1,e2,e3⟩
/-- A row that is owned above a bound is owned above a lower one. -/
theorem row_low {w:World} {lo lo':Nat} {e:TypeId} {size n:Nat} {v:Value} {xs:List Value} (h:w.ownsRow lo e size v n xs) (hl:lo' ≤ lo):w.ownsRow lo' e size v n xs:=by
 obtain ⟨h1,h2 | ⟨g,cap,cur,hv,hb,r⟩⟩:=h
 ·exact ⟨h1,.inl h2⟩
 ·exact ⟨h1,.inr ⟨g,cap,cur,hv,Nat.le_trans hl hb,r⟩⟩
end Go.Proofs.YtbiacfkiakddiaaGreat

namespace Go.Proofs.YtbiacfkiakddiaaGreat
open Go.RowKit Go.Fl
theorem pick_min (a b:Int):(if b < a then b else a) = min a b:=by omega
/-- The tiles of a picture. -/
def tilL (nx ny s:Int):List Tl:=tilesT nx ny s 12 0


set_option maxRecDepth 100000 in
set_option maxHeartbeats 4000000 in
theorem tiles_no (a b c d e f wd:Nat) (nx ny s:Int) (w:World) (hno:(camOk (cv a b c) (cv d e f) (cn .f32 wd) nx ny && (decide (1 ≤ s) && decide (s ≤ 12))) = false) :
  Calls Tryz.prog 115 #[CamV a b c d e f wd nx ny,.int .i64 s] w (fun e' w' => e' = .returned (.tuple #[.slice none 0 0,.bool false]) ∧ Below w.heap.size w w'):=by
 have hca:=fun w' => cam_any a b c d e f wd nx ny w'
 obtain ⟨p,hp⟩:∃ p,(decide (1 ≤ s) && decide (s ≤ 12)) = p:=⟨_,rfl⟩
 rw [hp] at hno
 generalize camOk (cv a b c) (cv d e f) (cn .f32 wd) nx ny = q at *
 cases q
 ·go_enter Tryz.func115,Tryz.ntmps115
  go_upto_region 1 with fail
  generalize hW:w.alloc (.cells #[F1 a,F1 b,F1 c,F1 d,F1 e,F1 f,F1 wd,.int .i64 nx,.int .i64 ny] 83) = W1 at *
  have W1b:Below w.heap.size w W1:=by subst hW;exact (by repeat' (first | exact Below.refl _ _ | exact Nat.le_refl _ | refine below_drewN ?_ _ | refine Below.alloc ?_ (by simp <;> omega) _ | refine Below.setCell ?_ (by simp <;> omega) _ | refine below_step ?_ (by assumption)))
  have hkept:Kept [(⟨w.heap.size,0,none⟩,F1 a),(⟨w.heap.size,1,none⟩,F1 b),(⟨w.heap.size,2,none⟩,F1 c),(⟨w.heap.size,3,none⟩,F1 d),(⟨w.heap.size,4,none⟩,F1 e),(⟨w.heap.size,5,none⟩,F1 f),(⟨w.heap.size,6,none⟩,F1 wd),(⟨w.heap.size,7,none⟩,.int .i64 nx),(⟨w.heap.size,8,none⟩,.int .i64 ny)] [] W1:=by
   subst hW;simp only [Kept,ka,kb,kc,kd,ke,kfa,kga];(first | (go_simp;done) | (simp [World.cell?,World.frozen?,World.alloc,Array.getElem?_push];done))
  clear hW
  have hK:=hkept;simp only [Kept,ka,kb,kc,kd,ke,kfa,kga] at hK
  go_wp2_with (go_at_call 170;refine (hca _).mono ?_;rintro _ w4 ⟨rfl,hb1⟩;have W1b:=below_step W1b hb1)
  exact bodyPost_ret (v:=.tuple #[.slice none 0 0,.bool false]) (by simp [results,Tryz.results115,go_sem];first | done | (rfl;done) | (repeat' constructor)) rfl ⟨rfl,W1b⟩
 ·have hp0:p = false:=by simpa using hno
  subst hp0
  go_enter Tryz.func115,Tryz.ntmps115
  go_upto_region 1 with fail
  generalize hW:w.alloc (.cells #[F1 a,F1 b,F1 c,F1 d,F1 e,F1 f,F1 wd,.int .i64 nx,.int .i64 ny] 83) = W1 at *
  have W1b:Below w.heap.size w W1:=by subst hW;exact (by repeat' (first | exact Below.refl _ _ | exact Nat.le_refl _ | refine below_drewN ?_ _ | refine Below.alloc ?_ (by simp <;> omega) _ | refine Below.setCell ?_ (by simp <;> omega) _ | refine below_step ?_ (by assumption)))
  have hkept:Kept [(⟨w.heap.size,0,none⟩,F1 a),(⟨w.heap.size,1,none⟩,F1 b),(⟨w.heap.size,2,none⟩,F1 c),(⟨w.heap.size,3,none⟩,F1 d),(⟨w.heap.size,4,none⟩,F1 e),(⟨w.heap.size,5,none⟩,F1 f),(⟨w.heap.size,6,none⟩,F1 wd),(⟨w.heap.size,7,none⟩,.int .i64 nx),(⟨w.heap.size,8,none⟩,.int .i64 ny)] [] W1:=by
   subst hW;simp only [Kept,ka,kb,kc,kd,ke,kfa,kga];(first | (go_simp;done) | (simp [World.cell?,World.frozen?,World.alloc,Array.getElem?_push];done))
  clear hW
  have hK:=hkept;simp only [Kept,ka,kb,kc,kd,ke,kfa,kga] at hK
  go_wp2_with (first
   | (go_at_call 170;refine (hca _).mono ?_;rintro _ w4 ⟨rfl,hb1⟩;have W1b:=below_step W1b hb1)
   | (go_at_call 74;refine (in_any _ _ _ _).mono ?_;rintro _ w5 ⟨rfl,rfl⟩;rw [hp]))
  exact bodyPost_ret (v:=.tuple #[.slice none 0 0,.bool false]) (by simp [results,Tryz.results115,go_sem];first | done | (rfl;done) | (repeat' constructor)) rfl ⟨rfl,W1b⟩

set_option maxRecDepth 100000 in
set_option maxHeartbeats 4000000 in
theorem tiles_any (a b c d e f wd:Nat) (nx ny s:Int) (w:World) (hok:camOk (cv a b c) (cv d e f) (cn .f32 wd) nx ny = true) (hs:1 ≤ s ∧ s ≤ 12) :
  Calls Tryz.prog 115 #[CamV a b c d e f wd nx ny,.int .i64 s] w (fun e' w' => ∃ v,e' = .returned (.tuple #[v,.bool true]) ∧ w'.ownsRow w.heap.size 99 4 v (tilL nx ny s).length (ft (tilL nx ny s)) ∧ Below w.heap.size w w'):=by
 obtain ⟨⟨hx1,hx2⟩,hy1,hy2⟩:=cam_sizes hok
 obtain ⟨hs1,hs2⟩:=hs
 have hca:∀ w',Calls Tryz.prog 170 #[CamV a b c d e f wd nx ny] w' (fun e' w'' => e' = .returned (.bool true) ∧ Below w'.heap.size w' w''):=fun w' => by rw [← hok];exact cam_any a b c d e f wd nx ny w'
 have hin:(decide (1 ≤ s) && decide (s ≤ 12)) = true:=by simp;omega
 have hTl:(tilL nx ny s).length ≤ 144:=tilesT_len nx ny s 12 0
 obtain ⟨T,hTe⟩:∃ T,Hid (tilL nx ny s = T):=⟨_,rfl⟩
 rw [hTe.out] at hTl ⊢
 clear hok
 go_enter Tryz.func115,Tryz.ntmps115
 go_upto_region 1 with fail
 generalize hW:w.alloc (.cells #[F1 a,F1 b,F1 c,F1 d,F1 e,F1 f,F1 wd,.int .i64 nx,.int .i64 ny] 83) = W1 at *
 have W1b:Below w.heap.size w W1:=by subst hW;exact (by repeat' (first | exact Below.refl _ _ | exact Nat.le_refl _ | refine below_drewN ?_ _ | refine Below.alloc ?_ (by simp <;> omega) _ | refine Below.setCell ?_ (by simp <;> omega) _ | refine below_step ?_ (by assumption)))
 have hkept:Kept [(⟨w.heap.size,0,none⟩,F1 a),(⟨w.heap.size,1,none⟩,F1 b),(⟨w.heap.size,2,none⟩,F1 c),(⟨w.heap.size,3,none⟩,F1 d),(⟨w.heap.size,4,none⟩,F1 e),(⟨w.heap.size,5,none⟩,F1 f),(⟨w.heap.size,6,none⟩,F1 wd),(⟨w.heap.size,7,none⟩,.int .i64 nx),(⟨w.heap.size,8,none⟩,.int .i64 ny)] [] W1:=by
  subst hW;simp only [Kept,ka,kb,kc,kd,ke,kfa,kga];(first | (go_simp;done) | (simp [World.cell?,World.frozen?,World.alloc,Array.getElem?_push];done))
 clear hW
 have hK:=hkept;simp only [Kept,ka,kb,kc,kd,ke,kfa,kga] at hK
 go_upto_region 3 with (first
  | (go_at_call 170;refine (hca _).mono ?_;rintro _ w4 ⟨rfl,hb1⟩;have W1b:=below_step W1b hb1;have hkept:=keepT hkept hb1 rfl;clear hK;have hK:=hkept;simp only [Kept,ka,kb,kc,kd,ke,kfa,kga] at hK)
  | (go_at_call 74;refine (in_any _ _ _ _).mono ?_;rintro _ w5 ⟨rfl,rfl⟩;rw [hin]))
 clear hca hb1
 have h4s:=W1b.size
 have W4b:Below w4.heap.size w4 (w4.alloc (.cells #[] 99)):=(Below.refl _ _).alloc (Nat.le_refl _) _
 go_wp2_with fail
 go_loopw [6,7] (fun v i wr => ∃ (y:Int) (g:Nat) (acc:List Tl),i = .int .i64 y ∧ (0 ≤ y ∧ y ≤ 24) ∧ ny - y ≤ (g:Int) ∧ acc ++ tilesT nx ny s g y = T ∧ w4.heap.size ≤ wr.heap.size ∧ wr.ownsRow w4.heap.size 99 4 v acc.length (ft acc) ∧ Below w4.heap.size w4 wr) (fun _ i _ => (30 - intOf i).toNat)
 case atStart => exact ⟨0,12,[],rfl,by omega,by omega,by rw [List.nil_append];exact hTe.out,by simp,World.ownsRow_lit w4 #[] 0 (Nat.le_refl _) (by unfold maxLen;omega) rfl,W4b⟩
 case round =>
  obtain ⟨y,g,acc,rfl,⟨hy0,hy24⟩,hg,hT,hsz,hown,Wb⟩:=hrel
  have hkept4:=Lib.hid hkept
  have hkept:=keep hkept Wb
  clear hK
  have hK:=hkept;simp only [Kept,ka,kb,kc,kd,ke,kfa,kga] at hK
  by_cases hlt:y < ny
  ·obtain ⟨g,rfl⟩:∃ g',g = g' + 1:=⟨g - 1,by omega⟩
   rw [tilesT,if_pos hlt] at hT
   obtain ⟨R,hR⟩:∃ R,Hid (tilesT nx ny s g (y + s) = R):=⟨_,rfl⟩
   rw [hR.out] at hT
   go_wp2_with fail
   go_loopw [6,8] (fun v i wr => ∃ (x:Int) (k:Nat) (acc:List Tl),i = .int .i64 x ∧ (0 ≤ x ∧ x ≤ 24) ∧ nx - x ≤ (k:Int) ∧ acc ++ (rowT nx ny s y k x ++ R) = T ∧ w4.heap.size ≤ wr.heap.size ∧ wr.ownsRow w4.heap.size 99 4 v acc.length (ft acc) ∧ Below w4.heap.size w4 wr) (fun _ i _ => (30 - intOf i).toNat)
   case atStart => exact ⟨0,12,acc,rfl,by omega,by omega,hT,hsz,hown,Wb⟩
   case round =>
    obtain ⟨x,k,acc2,rfl,⟨hx0,hx24⟩,hk,hT2,hsz2,hown2,Wb2⟩:=hrel
    have hkept:=keep hkept4.out Wb2
    clear hK
    have hK:=hkept;simp only [Kept,ka,kb,kc,kd,ke,kfa,kga] at hK
    by_cases hlx:x < nx
    ·obtain ⟨k,rfl⟩:∃ k',k = k' + 1:=⟨k - 1,by omega⟩
     rw [rowT,if_pos hlx] at hT2
     have hlen2:acc2.length ≤ 1000:=by have:=congrArg List.length hT2;simp at this;omega
     have hT3:=Lib.hid hT2
     have hw1:IntKind.i64.wrap (nx - x) = nx - x:=by rw [IntKind.wrap_i64];omega
     have hw2:IntKind.i64.wrap (ny - y) = ny - y:=by rw [IntKind.wrap_i64];omega
     have hm1:=pick_min s (nx - x)
     have hm2:=pick_min s (ny - y)
     obtain ⟨p,hp⟩:∃ p,min s (nx - x) = p:=⟨_,rfl⟩
     obtain ⟨q,hq⟩:∃ q,min s (ny - y) = q:=⟨_,rfl⟩
     rw [hp] at hm1 hT3
     rw [hq] at hm2 hT3
     clear hp hq hT hT2 hown Wb
     have hown3:=Lib.hid hown2
     clear hown2
     go_wp2_with (at_builtin;refine wp_appT w4.heap.size rfl (.tmp 32) (.tmp 48) rfl _ _ acc2 rfl (hown3.out.alloc _) wr.heap.size 1 (x,y,p,q) rfl (b4_new _ _ _ _ _ _) hlen2 (by simp;omega) ?_;intro v5 w5 hown5 hg5)
     refine ⟨⟨x + s,k,acc2 ++ [(x,y,p,q)],rfl,by omega,by omega,by rw [List.append_assoc];exact hT3.out,Nat.le_trans hsz2 (by have:=hg5.size;simp at this;omega),by rw [List.length_append];exact hown5,grown_below (Wb2.alloc hsz2 _) (hown3.out.alloc _) hg5 (Nat.le_refl _)⟩,by simp [intOf];omega⟩
    ·rw [rowT_end _ _ _ _ _ _ hlx,List.nil_append] at hT2
     have hH:=Lib.hid hown2
     clear hown2 hown
     go_wp2_with fail
     exact ⟨⟨y + s,g,acc2,rfl,by omega,by omega,by rw [hR.out];exact hT2,hsz2,hH.out,Wb2⟩,by simp [intOf];omega⟩
  ·rw [tilesT_end _ _ _ _ _ hlt,List.append_nil] at hT
   subst hT
   have hH:=Lib.hid hown
   clear hown
   go_wp2_with fail
   exact bodyPost_ret (v:=.tuple #[u6,.bool true]) (by simp [results,Tryz.results115,go_sem];first | done | (rfl;done) | (repeat' constructor)) rfl ⟨u6,rfl,row_low hH.out h4s,below_step W1b Wb⟩
end Go.Proofs.YtbiacfkiakddiaaGreat
