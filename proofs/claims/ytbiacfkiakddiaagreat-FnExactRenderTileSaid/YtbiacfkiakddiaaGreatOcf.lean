/-
 Lemmas: D21,D22,D23,D25.
-/
import Derived.Test.YtbiacfkiakddiaaGreatOce
set_option linter.unusedVariables false
set_option linter.unusedSimpArgs false
namespace Go.Proofs.YtbiacfkiakddiaaGreat
open Go.RowKit Go.Fl
theorem u8_info:(Tryz.prog.info? 5).map (fun i => (i.zero,i.size,i.bytes)) = some (some (.int .u8 0),1,1):=by kernel_rfl
/-- A list of bytes. -/
abbrev bl (l:List UInt8):List Value:=l.map fun b => .int .u8 (b.toNat:Int)
def bytU (n:Int):UInt8:=UInt8.ofNat (n % 256).toNat
theorem bytU_nat (n:Int):((bytU n).toNat:Int) = n % 256:=by
 unfold bytU
 rw [UInt8.toNat_ofNat']
 have h1:0 ≤ n % 256:=Int.emod_nonneg _ (by decide)
 have h2:n % 256 < 256:=Int.emod_lt_of_pos _ (by decide)
 omega

/-- One byte is appended. -/
theorem wp_appU {ops:Array Oper} {rest:List Oper} {o:Oper} {a:Act} {Q:Exit → Act → World → Prop} {W:World} (base:Nat) (hgd:o.guard = none) (s x:Operand)
  (ho:o.op = .call { callee:=.builtin .append,args:=#[s,x],argTypes:=#[247,247] })
  (v:Value) (m:Nat) (xs:List UInt8) (hs:a.eval s = v) (hown:W.ownsRow base 5 1 v m (bl xs)) (gn:Nat) (r:UInt8) (hx:a.eval x = .slice (some ⟨gn,0,none⟩) 1 1) (hcell:W.cell? ⟨gn,0,none⟩ = some (.int .u8 (r.toNat:Int)))
  (hm:m ≤ 1000) (hbase:base ≤ W.heap.size)
  (h:∀ v' w',w'.ownsRow base 5 1 v' (m + 1) (bl (xs ++ [r])) → W.grownBy w' v.ownBlock → wpList Tryz.prog ops Q rest (a.put o.dst v') w'):wpList Tryz.prog ops Q (o :: rest) a W:=by
 obtain ⟨i0,hi,hz0,hz1,hz2⟩:=info_parts u8_info
 refine wpList_append_own _ hgd s x 247 ho base 5 i0 (.int .u8 0) 1 1 Tryz.underlying247 hi hz0 hz1 hz2 rfl (by decide) v m (bl xs) hs hown ⟨gn,0,none⟩ 1 1 [.int .u8 (r.toNat:Int)] hx rfl ?_ ?_ (by unfold maxLen;omega) (by omega) hbase ?_
 ·intro j u hu
  cases j with
  | zero => simp at hu;subst hu;exact hcell
  | succ j => simp at hu
 ·intro u hu
  simp at hu
  subst hu
  rfl
 ·intro v' w' h1 h2 _
  refine h v' w' ?_ h2
  simpa [bl] using h1

/-- The bytes of a row,of rows. -/
def rowB (sh:Int → Int → Nat) (y x:Int):Nat → List UInt8
 | 0 => []
 | n + 1 => rowB sh y x n ++ [bytU (byteI (sh (x + (n:Int)) y))]
def picB (sh:Int → Int → Nat) (x y:Int) (n:Nat):Nat → List UInt8
 | 0 => []
 | h + 1 => picB sh x y n h ++ rowB sh (y + (h:Int)) x n
theorem rowB_len (sh:Int → Int → Nat) (y x:Int):∀ n,(rowB sh y x n).length = n
 | 0 => rfl
 | n + 1 => by rw [rowB,List.length_append,rowB_len];rfl
theorem picB_len (sh:Int → Int → Nat) (x y:Int) (n:Nat):∀ h,(picB sh x y n h).length = h * n
 | 0 => by rw [Nat.zero_mul];rfl
 | h + 1 => by rw [picB,List.length_append,picB_len,rowB_len,Nat.succ_mul]

abbrev TilV (x y n h:Int):Value:=.agg #[.int .i64 x,.int .i64 y,.int .i64 n,.int .i64 h]

set_option maxRecDepth 100000 in
set_option maxHeartbeats 8000000 in
theorem render_any (vb:Nat) (SH:Int → Int → Nat) (X Y:Int) (n h:Nat) (hX:0 ≤ X ∧ X ≤ 12) (hY:0 ≤ Y ∧ Y ≤ 12) (hn1:1 ≤ n) (hn:n ≤ 12) (hh1:1 ≤ h) (hh:h ≤ 12) (w:World)
  (hshd:∀ x y w',Below w.heap.size w w' → Calls Tryz.prog 105 #[.pointer (some ⟨vb,0,none⟩),.int .i64 x,.int .i64 y] w' (Ret .f32 (SH x y) w')) :
  Calls Tryz.prog 112 #[.pointer (some ⟨vb,0,none⟩),TilV X Y (n:Int) (h:Int)] w (fun e w' => e = .returned (.string ⟨(picB SH X Y n h).toArray⟩) ∧ Below w.heap.size w w'):=by
 go_enter Tryz.func112,Tryz.ntmps112
 go_upto_region 1 with fail
 generalize hW:w.alloc (.cells #[.int .i64 X,.int .i64 Y,.int .i64 (n:Int),.int .i64 (h:Int)] 99) = W1 at *
 have W1b:Below w.heap.size w W1:=by subst hW;exact (by repeat' (first | exact Below.refl _ _ | exact Nat.le_refl _ | refine below_drewN ?_ _ | refine Below.alloc ?_ (by simp <;> omega) _ | refine Below.setCell ?_ (by simp <;> omega) _ | refine below_step ?_ (by assumption)))
 have hkept:Kept [(⟨w.heap.size,0,none⟩,.int .i64 X),(⟨w.heap.size,1,none⟩,.int .i64 Y),(⟨w.heap.size,2,none⟩,.int .i64 (n:Int)),(⟨w.heap.size,3,none⟩,.int .i64 (h:Int))] [] W1:=by
  subst hW;simp only [Kept,ka,kb,kc,kd,ke,kfa,kga];(first | (go_simp;done) | (simp [World.cell?,World.frozen?,World.alloc,Array.getElem?_push];done))
 clear hW
 have hK:=hkept;simp only [Kept,ka,kb,kc,kd,ke,kfa,kga] at hK
 obtain ⟨hX0,hX1⟩:=hX
 obtain ⟨hY0,hY1⟩:=hY
 have hws:w.heap.size < W1.heap.size:=some_lt (a:=⟨w.heap.size,0,none⟩) (by simp [hK])
 have hkW:=hkept
 go_wp2_with fail
 go_loopw [5,6] (fun v i wr => ∃ (k:Nat),k ≤ h ∧ i = .int .i64 (Y + (k:Int)) ∧ W1.heap.size ≤ wr.heap.size ∧ wr.ownsRow W1.heap.size 5 1 v (k * n) (bl (picB SH X Y n k)) ∧ Below W1.heap.size W1 wr) (fun _ i _ => h + 12 - (intOf i).toNat)
 case atStart => exact ⟨0,by omega,by simp,by simp,by rw [Nat.zero_mul];exact World.ownsRow_lit W1 #[] 0 (Nat.le_refl _) (by unfold maxLen;omega) rfl,(Below.refl _ _).alloc (Nat.le_refl _) _⟩
 case round =>
  obtain ⟨k,hk,rfl,hsz,hown,Wb⟩:=hrel
  have hkept:=keep hkept Wb
  have Wrb:=below_step W1b Wb
  clear hK
  have hK:=hkept;simp only [Kept,ka,kb,kc,kd,ke,kfa,kga] at hK
  by_cases hlt:k < h
  ·have hlt':Y + (k:Int) < Y + (h:Int):=by omega
   have hkn:k * n ≤ 11 * 12:=Nat.mul_le_mul (by omega) hn
   rename World => wo
   go_wp2_with fail
   go_loopw [5,7] (fun v i wr => ∃ (m:Nat),m ≤ n ∧ i = .int .i64 (X + (m:Int)) ∧ W1.heap.size ≤ wr.heap.size ∧ wr.ownsRow W1.heap.size 5 1 v (k * n + m) (bl (picB SH X Y n k ++ rowB SH (Y + (k:Int)) X m)) ∧ Below W1.heap.size W1 wr) (fun _ i _ => n + 12 - (intOf i).toNat)
   case atStart => exact ⟨0,by omega,by simp,hsz,by simpa [rowB] using hown,Wb⟩
   case round =>
    obtain ⟨m,hm,rfl,hsz2,hown2,Wb2⟩:=hrel
    have hkept:=keep hkW Wb2
    have Wrb2:=below_step W1b Wb2
    clear hK
    have hK:=hkept;simp only [Kept,ka,kb,kc,kd,ke,kfa,kga] at hK
    by_cases hlt2:m < n
    ·have hlt2':X + (m:Int) < X + (n:Int):=by omega
     have hnx:Hid (picB SH X Y n k ++ rowB SH (Y + (k:Int)) X (m + 1) = (picB SH X Y n k ++ rowB SH (Y + (k:Int)) X m) ++ [bytU (byteI (SH (X + (m:Int)) (Y + (k:Int))))]):=by
      unfold Hid;rw [rowB,List.append_assoc]
     have hsh:=hshd (X + (m:Int)) (Y + (k:Int)) wr Wrb2
     obtain ⟨bb,hbb⟩:∃ bb,bb = bytU (byteI (SH (X + (m:Int)) (Y + (k:Int)))):=⟨_,rfl⟩
     have hbv:IntKind.u8.wrap (byteI (SH (X + (m:Int)) (Y + (k:Int)))) = (bb.toNat:Int):=by rw [hbb,bytU_nat];rfl
     rw [← hbb] at hnx
     clear hbb
     have hLn:k * n + m ≤ 1000:=by omega
     generalize picB SH X Y n k ++ rowB SH (Y + (k:Int)) X m = L at *
     generalize SH (X + (m:Int)) (Y + (k:Int)) = sv at *
     clear hshd hown Wb hkW
     go_wp2_with (first
      | (go_at_call 105;refine hsh.mono ?_;rintro _ w5 ⟨r,rfl,hr,hb1⟩;have Wb5:=below_step Wb2 hb1;have hown5:=owns_below hown2 hb1;have hkept:=keepT hkept hb1 rfl;clear hK;have hK:=hkept;simp only [Kept,ka,kb,kc,kd,ke,kfa,kga] at hK)
      | (go_at_call 182;refine (byte_any _ _).mono ?_;rintro _ w6 ⟨rfl,hb1⟩;rw [hr];have Wb6:=below_step Wb5 hb1;have hown6:=owns_below hown5 hb1;have hkept:=keepT hkept hb1 rfl;clear hK;have hK:=hkept;simp only [Kept,ka,kb,kc,kd,ke,kfa,kga] at hK)
      | (at_builtin;refine wp_appU W1.heap.size rfl (.tmp 31) (.tmp 38) rfl _ _ L rfl (hown6.alloc _) w6.heap.size bb rfl (by simp) hLn (by have:=Wb6.size;simp;omega) ?_;intro v5 w7 hown7 hg7))
     refine ⟨⟨m + 1,by omega,by rw [show X + ((m + 1:Nat):Int) = X + (m:Int) + 1 by omega],Nat.le_trans Wb6.size (by have:=hg7.size;simp at this;omega),by rw [hnx.out];exact hown7,grown_below (Wb6.alloc Wb6.size _) (hown6.alloc _) hg7 (Nat.le_refl _)⟩,by simp [intOf];omega⟩
    ·obtain rfl:m = n:=by omega
     have hpic:Hid (picB SH X Y m (k + 1) = picB SH X Y m k ++ rowB SH (Y + (k:Int)) X m):=rfl
     have hH:=Lib.hid hown2
     clear hown2 hown hshd
     go_wp2_with fail
     refine ⟨⟨k + 1,by omega,by rw [show Y + ((k + 1:Nat):Int) = Y + (k:Int) + 1 by omega],hsz2,?_,Wb2⟩,by simp [intOf];omega⟩
     rw [hpic.out,Nat.succ_mul]
     exact hH.out
  ·obtain rfl:k = h:=by omega
   rcases row_form hown with ⟨rfl,h0⟩ | ⟨g,cap,rfl,_,_⟩
   ·have:=Nat.mul_pos hh1 hn1
    omega
   have hl:=picB_len SH X Y n k
   have hcv:=run_convert_bytes_back (P:=Tryz.prog) wr 247 9 5 ⟨g,0,none⟩ cap (picB SH X Y n k) Tryz.underlying247 Tryz.underlying5 Tryz.underlying9 (fun j hj => by
    have hc:=hown.cellAt j (by omega)
    rw [show (bl (picB SH X Y n k))[j]? = some (.int .u8 ((picB SH X Y n k)[j].toNat:Int)) by simp [bl,hj]] at hc
    rw [show (⟨g,0,none⟩:Addr).add j = ⟨g,j,none⟩ by cases j <;> simp [Addr.add]]
    simpa using hc)
   rw [hl] at hcv
   clear hown hshd
   go_wp2_with fail
   go_ret
   exact ⟨rfl,Wrb⟩
end Go.Proofs.YtbiacfkiakddiaaGreat

namespace Go.Proofs.YtbiacfkiakddiaaGreat
open Go.RowKit Go.Fl
set_option maxRecDepth 100000 in
set_option maxHeartbeats 8000000 in
theorem s_part_any (vb tb tt:Nat) (SH:Int → Int → Nat) (X Y:Int) (n h:Nat) (hX:0 ≤ X ∧ X ≤ 12) (hY:0 ≤ Y ∧ Y ≤ 12) (hn1:1 ≤ n) (hn:n ≤ 12) (hh1:1 ≤ h) (hh:h ≤ 12) (w:World) (hT:Kept [(⟨tb,tt,none⟩,.int .i64 X),(⟨tb,tt + 1,none⟩,.int .i64 Y),(⟨tb,tt + 2,none⟩,.int .i64 (n:Int)),(⟨tb,tt + 3,none⟩,.int .i64 (h:Int))] [] w)
  (hshd:∀ x y w',Below w.heap.size w w' → Calls Tryz.prog 100 #[.pointer (some ⟨vb,0,none⟩),.int .i64 x,.int .i64 y] w' (Ret .f32 (SH x y) w')) :
  Calls Tryz.prog 109 #[.pointer (some ⟨vb,0,none⟩),.pointer (some ⟨tb,tt,none⟩)] w (fun e w' => e = .returned (.string ⟨(picB SH X Y n h).toArray⟩) ∧ Below w.heap.size w w'):=by
 go_enter Tryz.func109,Tryz.ntmps109
 have hkept:=hT
 have W1b:=Below.refl w.heap.size w
 clear hT
 have hK:=hkept;simp only [Kept,ka,kb,kc,kd,ke,kfa,kga] at hK
 obtain ⟨hX0,hX1⟩:=hX
 obtain ⟨hY0,hY1⟩:=hY
 have hws:tb < w.heap.size:=some_lt (a:=⟨tb,tt,none⟩) (by simp [hK])
 have hkW:=hkept
 go_wp2_with fail
 go_loopw [5,6] (fun v i wr => ∃ (k:Nat),k ≤ h ∧ i = .int .i64 (Y + (k:Int)) ∧ w.heap.size ≤ wr.heap.size ∧ wr.ownsRow w.heap.size 5 1 v (k * n) (bl (picB SH X Y n k)) ∧ Below w.heap.size w wr) (fun _ i _ => h + 12 - (intOf i).toNat)
 case atStart => exact ⟨0,by omega,by simp,by simp,by rw [Nat.zero_mul];exact World.ownsRow_lit w #[] 0 (Nat.le_refl _) (by unfold maxLen;omega) rfl,(Below.refl _ _).alloc (Nat.le_refl _) _⟩
 case round =>
  obtain ⟨k,hk,rfl,hsz,hown,Wb⟩:=hrel
  have hkept:=keep hkept Wb
  have Wrb:=below_step W1b Wb
  clear hK
  go_upto_region 3 with fail
  refine Qr.wp_below_all (by kernel_rfl) (by kernel_rfl) (fun _ _ _ => False) ?_
  repeat (refine Qr.walk_plain rfl fun K hK => ?_;apply Qr.one_det;(focus (intro w' hw';have HK:=keep hkept hw';simp only [Kept,ka,kb,kc,kd,ke,kfa,kga] at HK;go_simp;first | done | rfl));go_simp;refine hK _ ?_;clear hK K)
  refine Qr.walk_nil fun w3 hw3 => ?_
  have hkept:=keep hkept hw3
  have Wb:=below_step Wb hw3
  have Wrb:=below_step Wrb hw3
  have hown:=owns_below hown hw3
  have hsz:=Nat.le_trans hsz hw3.size
  clear hw3
  rename World => wr
  have hK:=hkept;simp only [Kept,ka,kb,kc,kd,ke,kfa,kga] at hK
  have hwrY:IntKind.i64.wrap (Y + (h:Int)) = Y + (h:Int):=by rw [IntKind.wrap_i64];omega
  simp only [hwrY]
  by_cases hlt:k < h
  ·have hlt':Y + (k:Int) < Y + (h:Int):=by omega
   have hkn:k * n ≤ 11 * 12:=Nat.mul_le_mul (by omega) hn
   simp only [decide_eq_true hlt']
   rename World => wo
   go_wp2_with fail
   go_loopw [5,7] (fun v i wr => ∃ (m:Nat),m ≤ n ∧ i = .int .i64 (X + (m:Int)) ∧ w.heap.size ≤ wr.heap.size ∧ wr.ownsRow w.heap.size 5 1 v (k * n + m) (bl (picB SH X Y n k ++ rowB SH (Y + (k:Int)) X m)) ∧ Below w.heap.size w wr) (fun _ i _ => n + 12 - (intOf i).toNat)
   case atStart => exact ⟨0,by omega,by simp,hsz,by simpa [rowB] using hown,Wb⟩
   case round =>
    obtain ⟨m,hm,rfl,hsz2,hown2,Wb2⟩:=hrel
    have hkept:=keep hkW Wb2
    have Wrb2:=below_step W1b Wb2
    clear hK
    go_upto_region 6 with fail
    refine Qr.wp_below_all (by kernel_rfl) (by kernel_rfl) (fun _ _ _ => False) ?_
    repeat (refine Qr.walk_plain rfl fun K hK => ?_;apply Qr.one_det;(focus (intro w' hw';have HK:=keep hkept hw';simp only [Kept,ka,kb,kc,kd,ke,kfa,kga] at HK;go_simp;first | done | rfl));go_simp;refine hK _ ?_;clear hK K)
    refine Qr.walk_nil fun w4 hw4 => ?_
    have hkept:=keep hkept hw4
    have Wb2:=below_step Wb2 hw4
    have Wrb2:=below_step Wrb2 hw4
    have hown2:=owns_below hown2 hw4
    have hsz2:=Nat.le_trans hsz2 hw4.size
    clear hw4
    rename World => wr
    have hK:=hkept;simp only [Kept,ka,kb,kc,kd,ke,kfa,kga] at hK
    have hwrX:IntKind.i64.wrap (X + (n:Int)) = X + (n:Int):=by rw [IntKind.wrap_i64];omega
    simp only [hwrX]
    by_cases hlt2:m < n
    ·have hlt2':X + (m:Int) < X + (n:Int):=by omega
     have hnx:Hid (picB SH X Y n k ++ rowB SH (Y + (k:Int)) X (m + 1) = (picB SH X Y n k ++ rowB SH (Y + (k:Int)) X m) ++ [bytU (byteI (SH (X + (m:Int)) (Y + (k:Int))))]):=by
      unfold Hid;rw [rowB,List.append_assoc]
     have hsh:=hshd (X + (m:Int)) (Y + (k:Int)) wr Wrb2
     obtain ⟨bb,hbb⟩:∃ bb,bb = bytU (byteI (SH (X + (m:Int)) (Y + (k:Int)))):=⟨_,rfl⟩
     have hbv:IntKind.u8.wrap (byteI (SH (X + (m:Int)) (Y + (k:Int)))) = (bb.toNat:Int):=by rw [hbb,bytU_nat];rfl
     rw [← hbb] at hnx
     clear hbb
     have hLn:k * n + m ≤ 1000:=by omega
     generalize picB SH X Y n k ++ rowB SH (Y + (k:Int)) X m = L at *
     generalize SH (X + (m:Int)) (Y + (k:Int)) = sv at *
     clear hshd hown Wb hkW
     go_wp2_with (first
      | (go_at_call 100;refine hsh.mono ?_;rintro _ w5 ⟨r,rfl,hr,hb1⟩;have Wb5:=below_step Wb2 hb1;have hown5:=owns_below hown2 hb1;have hkept:=keepT hkept hb1 rfl;clear hK;have hK:=hkept;simp only [Kept,ka,kb,kc,kd,ke,kfa,kga] at hK)
      | (go_at_call 181;refine (s_byte_any _ _).mono ?_;rintro _ w6 ⟨rfl,hb1⟩;rw [hr];have Wb6:=below_step Wb5 hb1;have hown6:=owns_below hown5 hb1;have hkept:=keepT hkept hb1 rfl;clear hK;have hK:=hkept;simp only [Kept,ka,kb,kc,kd,ke,kfa,kga] at hK)
      | (at_builtin;refine wp_appU w.heap.size rfl (.tmp 43) (.tmp 50) rfl _ _ L rfl (hown6.alloc _) w6.heap.size bb rfl (by simp) hLn (by have:=Wb6.size;simp;omega) ?_;intro v5 w7 hown7 hg7))
     refine ⟨⟨m + 1,by omega,by rw [show X + ((m + 1:Nat):Int) = X + (m:Int) + 1 by omega],Nat.le_trans Wb6.size (by have:=hg7.size;simp at this;omega),by rw [hnx.out];exact hown7,grown_below (Wb6.alloc Wb6.size _) (hown6.alloc _) hg7 (Nat.le_refl _)⟩,by simp [intOf];omega⟩
    ·obtain rfl:m = n:=by omega
     have hpic:Hid (picB SH X Y m (k + 1) = picB SH X Y m k ++ rowB SH (Y + (k:Int)) X m):=rfl
     have hH:=Lib.hid hown2
     clear hown2 hown hshd
     go_wp2_with fail
     refine ⟨⟨k + 1,by omega,by rw [show Y + ((k + 1:Nat):Int) = Y + (k:Int) + 1 by omega],hsz2,?_,Wb2⟩,by simp [intOf];omega⟩
     rw [hpic.out,Nat.succ_mul]
     exact hH.out
  ·obtain rfl:k = h:=by omega
   rcases row_form hown with ⟨rfl,h0⟩ | ⟨g,cap,rfl,_,_⟩
   ·have:=Nat.mul_pos hh1 hn1
    omega
   have hl:=picB_len SH X Y n k
   have hcv:=run_convert_bytes_back (P:=Tryz.prog) wr 247 9 5 ⟨g,0,none⟩ cap (picB SH X Y n k) Tryz.underlying247 Tryz.underlying5 Tryz.underlying9 (fun j hj => by
    have hc:=hown.cellAt j (by omega)
    rw [show (bl (picB SH X Y n k))[j]? = some (.int .u8 ((picB SH X Y n k)[j].toNat:Int)) by simp [bl,hj]] at hc
    rw [show (⟨g,0,none⟩:Addr).add j = ⟨g,j,none⟩ by cases j <;> simp [Addr.add]]
    simpa using hc)
   rw [hl] at hcv
   clear hown hshd
   go_wp2_with fail
   go_ret
   exact ⟨rfl,Wrb⟩
end Go.Proofs.YtbiacfkiakddiaaGreat

namespace Go.Proofs.YtbiacfkiakddiaaGreat
open Go.RowKit Go.Fl
/-- A tile that a camera has. -/
def tileOk (nx ny X Y n h:Int):Bool:=pixOk nx ny X Y && (decide (1 ≤ n) && decide (n ≤ nx - X)) && (decide (1 ≤ h) && decide (h ≤ ny - Y))

set_option maxRecDepth 100000 in
set_option maxHeartbeats 4000000 in
theorem istile_any (a b c d e f wd:Nat) (nx ny X Y n h:Int) (w:World) (hok:camOk (cv a b c) (cv d e f) (cn .f32 wd) nx ny = true) :
  Calls Tryz.prog 111 #[CamV a b c d e f wd nx ny,.agg #[.int .i64 X,.int .i64 Y,.int .i64 n,.int .i64 h]] w (fun e' w' => e' = .returned (.bool (tileOk nx ny X Y n h)) ∧ Below w.heap.size w w'):=by
 obtain ⟨U,hU⟩:∃ U,Hid (tileOk nx ny X Y n h = U):=⟨_,rfl⟩
 rw [hU.out]
 have hUo:=hU.out
 unfold tileOk pixOk at hUo
 clear hU
 obtain ⟨⟨hx1,hx2⟩,hy1,hy2⟩:=cam_sizes hok
 have hca:∀ w',Calls Tryz.prog 170 #[CamV a b c d e f wd nx ny] w' (fun e' w'' => e' = .returned (.bool true) ∧ Below w'.heap.size w' w''):=fun w' => by rw [← hok];exact cam_any a b c d e f wd nx ny w'
 clear hok
 have t1:True:=trivial
 have t2:True:=trivial
 have t3:True:=trivial
 go_enter Tryz.func111,Tryz.ntmps111
 go_upto_region 1 with fail
 generalize hW:(w.alloc (.cells #[F1 a,F1 b,F1 c,F1 d,F1 e,F1 f,F1 wd,.int .i64 nx,.int .i64 ny] 83)).alloc (.cells #[.int .i64 X,.int .i64 Y,.int .i64 n,.int .i64 h] 99) = W1 at *
 have W1b:Below w.heap.size w W1:=by subst hW;exact (by repeat' (first | exact Below.refl _ _ | exact Nat.le_refl _ | refine below_drewN ?_ _ | refine Below.alloc ?_ (by simp <;> omega) _ | refine Below.setCell ?_ (by simp <;> omega) _ | refine below_step ?_ (by assumption)))
 have hkept:Kept [(⟨w.heap.size,0,none⟩,F1 a),(⟨w.heap.size,1,none⟩,F1 b),(⟨w.heap.size,2,none⟩,F1 c),(⟨w.heap.size,3,none⟩,F1 d),(⟨w.heap.size,4,none⟩,F1 e),(⟨w.heap.size,5,none⟩,F1 f),(⟨w.heap.size,6,none⟩,F1 wd),(⟨w.heap.size,7,none⟩,.int .i64 nx),(⟨w.heap.size,8,none⟩,.int .i64 ny),(⟨w.heap.size + 1,0,none⟩,.int .i64 X),(⟨w.heap.size + 1,1,none⟩,.int .i64 Y),(⟨w.heap.size + 1,2,none⟩,.int .i64 n),(⟨w.heap.size + 1,3,none⟩,.int .i64 h)] [] W1:=by
  subst hW;simp only [Kept,ka,kb,kc,kd,ke,kfa,kga];(first | (go_simp;done) | (simp [World.cell?,World.frozen?,World.alloc,Array.getElem?_push];done))
 clear hW
 have hK:=hkept;simp only [Kept,ka,kb,kc,kd,ke,kfa,kga] at hK
 obtain ⟨p1,h1⟩:∃ p,(decide (0 ≤ X) && decide (X ≤ nx - 1)) = p:=⟨_,rfl⟩
 obtain ⟨p2,h2⟩:∃ p,(decide (0 ≤ Y) && decide (Y ≤ ny - 1)) = p:=⟨_,rfl⟩
 obtain ⟨p3,h3⟩:∃ p,(decide (1 ≤ n) && decide (n ≤ nx - X)) = p:=⟨_,rfl⟩
 obtain ⟨p4,h4⟩:∃ p,(decide (1 ≤ h) && decide (h ≤ ny - Y)) = p:=⟨_,rfl⟩
 rw [h1,h2,h3,h4] at hUo
 rcases ff4 p1 p2 p3 p4 with g1 | ⟨g1,g2⟩ | ⟨g1,g2,g3⟩ | ⟨g1,g2,g3,g4⟩ | ⟨g1,g2,g3,g4⟩
 all_goals
  (try rw [g1] at h1 hUo);(try rw [g2] at h2 hUo);(try rw [g3] at h3 hUo);(try rw [g4] at h4 hUo)
  simp only [Bool.and_true,Bool.and_false,Bool.false_and,Bool.true_and] at hUo
  subst hUo
  try have hX:0 ≤ X ∧ X ≤ nx - 1:=by simpa using h1
  try have hY:0 ≤ Y ∧ Y ≤ ny - 1:=by simpa using h2
  go_wp2_with (first
   | (go_at_call 170;refine (hca _).mono ?_;rintro _ w4 ⟨rfl,hb1⟩;have W1b:=below_step W1b hb1;have hkept:=keepT hkept hb1 rfl;clear hK;have hK:=hkept;simp only [Kept,ka,kb,kc,kd,ke,kfa,kga] at hK)
   | (clear t1;go_at_call 74;refine (in_any _ _ _ _).mono ?_;rintro _ w5 ⟨rfl,rfl⟩;rw [h1])
   | (clear t2;go_at_call 74;refine (in_any _ _ _ _).mono ?_;rintro _ w5 ⟨rfl,rfl⟩;rw [h2])
   | (clear t3;go_at_call 74;refine (in_any _ _ _ _).mono ?_;rintro _ w5 ⟨rfl,rfl⟩;rw [h3])
   | (go_at_call 74;refine (in_any _ _ _ _).mono ?_;rintro _ w5 ⟨rfl,rfl⟩;rw [h4]))
  go_ret
  exact ⟨rfl,W1b⟩
end Go.Proofs.YtbiacfkiakddiaaGreat

namespace Go.Proofs.YtbiacfkiakddiaaGreat
open Go.RowKit Go.Fl
/-- A picture,if all is right. -/
def RetPic (ok:Bool) (L:List UInt8) (w:World) (e:Ending) (w':World):Prop:=e = .returned (.tuple #[.string ⟨(if ok = true then L else []).toArray⟩,.bool ok]) ∧ Below w.heap.size w w'
theorem tile_parts {nx ny X Y p q:Int} (hc:(1 ≤ nx ∧ nx ≤ 12) ∧ 1 ≤ ny ∧ ny ≤ 12) (h:tileOk nx ny X Y p q = true):∃ (u v:Nat),p = (u:Int) ∧ q = (v:Int) ∧ (0 ≤ X ∧ X ≤ 12) ∧ (0 ≤ Y ∧ Y ≤ 12) ∧ 1 ≤ u ∧ u ≤ 12 ∧ 1 ≤ v ∧ v ≤ 12:=by
 unfold tileOk pixOk at h
 simp only [Bool.and_eq_true,decide_eq_true_eq] at h
 exact ⟨p.toNat,q.toNat,by omega,by omega,by omega,by omega,by omega,by omega,by omega,by omega⟩


set_option maxRecDepth 100000 in
set_option maxHeartbeats 4000000 in
theorem rtile_any (ns:List PN) (hnum:∀ n ∈ ns,n.nums.length < 10000000) (nb no cap a b c d e f wd:Nat) (nx ny:Int) (lx ly lz near most:Nat) (n:Int) (bp:Option Addr) (w:World) (hbp:ns ≠ [] → bp = some ⟨nb,no,none⟩) (hsh:∀ i (h:i < ns.length),NodeIn ns[i] nb (no + i * 4) w) (hlen:ns.length < 10000000) (X Y p q:Int) :
  Calls Tryz.prog 55 #[ViewV bp ns.length cap a b c d e f wd nx ny lx ly lz near most n,TilV X Y p q] w (RetPic (viewOk (validF ns) (cv a b c) (cv d e f) (cn .f32 wd) nx ny (cv lx ly lz) (cn .f32 near) (cn .f32 most) n && tileOk nx ny X Y p q) (picB (fun x y => shadeF (topF ns) capF (fun F T mo => marchGo (topF ns) F T (slopeF ns) (cn .f32 near) mo n.toNat 1 0) (cv a b c) (wayP (cv a b c) (cv d e f) (cn .f32 wd) nx ny x y) (cv lx ly lz) (cn .f32 near) (cn .f32 most)) X Y p.toNat q.toNat) w):=by
 obtain ⟨ok,hOk⟩:∃ ok,Hid (ok = (viewOk (validF ns) (cv a b c) (cv d e f) (cn .f32 wd) nx ny (cv lx ly lz) (cn .f32 near) (cn .f32 most) n && tileOk nx ny X Y p q)):=⟨_,rfl⟩
 rw [← hOk.out]
 obtain ⟨L,hL⟩:∃ L,Hid (picB (fun x y => shadeF (topF ns) capF (fun F T mo => marchGo (topF ns) F T (slopeF ns) (cn .f32 near) mo n.toNat 1 0) (cv a b c) (wayP (cv a b c) (cv d e f) (cn .f32 wd) nx ny x y) (cv lx ly lz) (cn .f32 near) (cn .f32 most)) X Y p.toNat q.toNat = L):=⟨_,rfl⟩
 rw [hL.out]
 have hvv:∀ w',Below w.heap.size w w' → Calls Tryz.prog 103 #[ViewV bp ns.length cap a b c d e f wd nx ny lx ly lz near most n] w' (fun e' w'' => e' = .returned (.bool (viewOk (validF ns) (cv a b c) (cv d e f) (cn .f32 wd) nx ny (cv lx ly lz) (cn .f32 near) (cn .f32 most) n)) ∧ Below w'.heap.size w' w''):=fun w' hb => view_any ns hnum nb no cap a b c d e f wd nx ny lx ly lz near most n bp w' hbp (fun i h => (hsh i h).keep hb) hlen
 go_enter Tryz.func55,Tryz.ntmps55
 go_upto_region 1 with fail
 generalize hW:(w.alloc (.cells #[.slice bp ns.length cap,F1 a,F1 b,F1 c,F1 d,F1 e,F1 f,F1 wd,.int .i64 nx,.int .i64 ny,F1 lx,F1 ly,F1 lz,F1 near,F1 most,.int .i64 n] 86)).alloc (.cells #[.int .i64 X,.int .i64 Y,.int .i64 p,.int .i64 q] 99) = W1 at *
 have W1b:Below w.heap.size w W1:=by subst hW;exact (by repeat' (first | exact Below.refl _ _ | exact Nat.le_refl _ | refine below_drewN ?_ _ | refine Below.alloc ?_ (by simp <;> omega) _ | refine Below.setCell ?_ (by simp <;> omega) _ | refine below_step ?_ (by assumption)))
 have hkept:Kept [(⟨w.heap.size,0,none⟩,.slice bp ns.length cap),(⟨w.heap.size,1,none⟩,F1 a),(⟨w.heap.size,2,none⟩,F1 b),(⟨w.heap.size,3,none⟩,F1 c),(⟨w.heap.size,4,none⟩,F1 d),(⟨w.heap.size,5,none⟩,F1 e),(⟨w.heap.size,6,none⟩,F1 f),(⟨w.heap.size,7,none⟩,F1 wd),(⟨w.heap.size,8,none⟩,.int .i64 nx),(⟨w.heap.size,9,none⟩,.int .i64 ny),(⟨w.heap.size,10,none⟩,F1 lx),(⟨w.heap.size,11,none⟩,F1 ly),(⟨w.heap.size,12,none⟩,F1 lz),(⟨w.heap.size,13,none⟩,F1 near),(⟨w.heap.size,14,none⟩,F1 most),(⟨w.heap.size,15,none⟩,.int .i64 n),(⟨w.heap.size + 1,0,none⟩,.int .i64 X),(⟨w.heap.size + 1,1,none⟩,.int .i64 Y),(⟨w.heap.size + 1,2,none⟩,.int .i64 p),(⟨w.heap.size + 1,3,none⟩,.int .i64 q)] [] W1:=by
  subst hW;simp only [Kept,ka,kb,kc,kd,ke,kfa,kga];(first | (go_simp;done) | (simp [World.cell?,World.frozen?,World.alloc,Array.getElem?_push];done))
 clear hW
 have hK:=hkept;simp only [Kept,ka,kb,kc,kd,ke,kfa,kga] at hK
 cases hval:viewOk (validF ns) (cv a b c) (cv d e f) (cn .f32 wd) nx ny (cv lx ly lz) (cn .f32 near) (cn .f32 most) n
 ·have hno:ok = false:=by rw [hOk.out,hval];rfl
  rw [hval] at hvv
  clear hOk hsh hbp hnum hL
  subst hno
  go_wp2_with (go_at_call 103;refine (hvv _ W1b).mono ?_;rintro _ w4 ⟨rfl,hb1⟩;have W1b:=below_step W1b hb1)
  exact bodyPost_ret (v:=.tuple #[.string ⟨#[]⟩,.bool false]) (by simp [results,Tryz.results55,go_sem];first | done | (rfl;done) | (repeat' constructor)) rfl ⟨rfl,W1b⟩
 obtain ⟨hvf,hcam,hmar⟩:=view_parts hval
 rw [hval] at hvv
 obtain ⟨m,rfl⟩:=Int.eq_ofNat_of_zero_le (show 0 ≤ n by have:=mar_steps hmar;omega)
 have hm64:m ≤ 64:=by have:=mar_steps hmar;omega
 obtain ⟨hl,hokk⟩:=valid_ok hvf
 have hb:=hbp (by intro h;rw [h] at hl;simp at hl)
 subst hb
 have hV:∀ w',Below w.heap.size w w' → Kept [(⟨w.heap.size,0,none⟩,.slice (some ⟨nb,no,none⟩) ns.length cap),(⟨w.heap.size,1,none⟩,F1 a),(⟨w.heap.size,2,none⟩,F1 b),(⟨w.heap.size,3,none⟩,F1 c),(⟨w.heap.size,4,none⟩,F1 d),(⟨w.heap.size,5,none⟩,F1 e),(⟨w.heap.size,6,none⟩,F1 f),(⟨w.heap.size,7,none⟩,F1 wd),(⟨w.heap.size,8,none⟩,.int .i64 nx),(⟨w.heap.size,9,none⟩,.int .i64 ny),(⟨w.heap.size,10,none⟩,F1 lx),(⟨w.heap.size,11,none⟩,F1 ly),(⟨w.heap.size,12,none⟩,F1 lz),(⟨w.heap.size,13,none⟩,F1 near),(⟨w.heap.size,14,none⟩,F1 most),(⟨w.heap.size,15,none⟩,.int .i64 (m:Int))] [] w' → ViewIn ns w.heap.size nb no cap a b c d e f wd nx ny lx ly lz near most m w':=fun w' hb hk => ⟨hk,fun i h => (hsh i h).keep hb⟩
 have hsh2:=Lib.hid hsh
 clear hsh hbp
 have hits:∀ w',Calls Tryz.prog 111 #[CamV a b c d e f wd nx ny,TilV X Y p q] w' (fun e' w'' => e' = .returned (.bool (tileOk nx ny X Y p q)) ∧ Below w'.heap.size w' w''):=fun w' => istile_any a b c d e f wd nx ny X Y p q w' hcam
 have hrest:tileOk nx ny X Y p q = ok:=by rw [hOk.out,hval];rfl
 rw [hrest] at hits
 cases ok
 ·clear hOk hval hrest hV hL hnum
  go_wp2_with (first
   | (go_at_call 103;refine (hvv _ W1b).mono ?_;rintro _ w4 ⟨rfl,hb1⟩;have W1b:=below_step W1b hb1;have hkept:=keepT hkept hb1 rfl;clear hK;have hK:=hkept;simp only [Kept,ka,kb,kc,kd,ke,kfa,kga] at hK)
   | (go_at_call 111;refine (hits _).mono ?_;rintro _ w5 ⟨rfl,hb1⟩;have W1b:=below_step W1b hb1;have hkept:=keepT hkept hb1 rfl;clear hK;have hK:=hkept;simp only [Kept,ka,kb,kc,kd,ke,kfa,kga] at hK))
  exact bodyPost_ret (v:=.tuple #[.string ⟨#[]⟩,.bool false]) (by simp [results,Tryz.results55,go_sem];first | done | (rfl;done) | (repeat' constructor)) rfl ⟨rfl,W1b⟩
 ·obtain ⟨u,v,rfl,rfl,hX,hY,hu1,hu,hv1,hv⟩:=tile_parts (cam_sizes hcam) hrest
  have hL2:=hL.out
  simp only [Int.toNat_natCast] at hL2
  have hshd:∀ x y w',ViewIn ns w.heap.size nb no cap a b c d e f wd nx ny lx ly lz near most m w' → Calls Tryz.prog 105 #[.pointer (some ⟨w.heap.size,0,none⟩),.int .i64 x,.int .i64 y] w' (Ret .f32 ((fun x y => shadeF (topF ns) capF (fun F T mo => marchGo (topF ns) F T (slopeF ns) (cn .f32 near) mo m 1 0) (cv a b c) (wayP (cv a b c) (cv d e f) (cn .f32 wd) nx ny x y) (cv lx ly lz) (cn .f32 near) (cn .f32 most)) x y) w'):=fun x y w' h => shade_any ns hvf hnum w.heap.size nb no cap a b c d e f wd nx ny lx ly lz near most m hm64 hmar x y w' h
  have hren:∀ w',ViewIn ns w.heap.size nb no cap a b c d e f wd nx ny lx ly lz near most m w' → Calls Tryz.prog 112 #[.pointer (some ⟨w.heap.size,0,none⟩),TilV X Y (u:Int) (v:Int)] w' (fun e w'' => e = .returned (.string ⟨L.toArray⟩) ∧ Below w'.heap.size w' w''):=fun w' hv2 => by rw [← hL2];exact render_any w.heap.size _ X Y u v hX hY hu1 hu hv1 hv w' (fun x y w'' hb => hshd x y w'' (hv2.keep hb))
  clear hnum hshd hOk hval hrest hL hL2
  go_wp2_with (first
   | (go_at_call 103;refine (hvv _ W1b).mono ?_;rintro _ w4 ⟨rfl,hb1⟩;have W1b:=below_step W1b hb1;have hkept:=keepT hkept hb1 rfl;clear hK;have hK:=hkept;simp only [Kept,ka,kb,kc,kd,ke,kfa,kga] at hK;have hV2:=hV _ W1b (by have hK2:=hkept;simp only [Kept,ka,kb,kc,kd,ke,kfa,kga] at hK2;simp only [Kept,ka,kb,kc,kd,ke,kfa,kga];simp [hK2]))
   | (go_at_call 111;refine (hits _).mono ?_;rintro _ w5 ⟨rfl,hb1⟩;have W1b:=below_step W1b hb1;have hV2:=hV2.keep hb1;have hkept:=keepT hkept hb1 rfl;clear hK;have hK:=hkept;simp only [Kept,ka,kb,kc,kd,ke,kfa,kga] at hK)
   | (go_at_call 112;refine (hren _ hV2).mono ?_;rintro _ w6 ⟨rfl,hb1⟩;have W1b:=below_step W1b hb1))
  exact bodyPost_ret (v:=.tuple #[.string ⟨L.toArray⟩,.bool true]) (by simp [results,Tryz.results55,go_sem];first | done | (rfl;done) | (repeat' constructor)) rfl ⟨rfl,W1b⟩
end Go.Proofs.YtbiacfkiakddiaaGreat
