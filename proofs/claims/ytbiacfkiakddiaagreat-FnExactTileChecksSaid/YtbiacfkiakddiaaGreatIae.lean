/-
 Lemmas: T3,T5.
-/
import Derived.Test.YtbiacfkiakddiaaGreatIad
set_option linter.unusedVariables false
set_option linter.unusedSimpArgs false
namespace Go.Proofs.YtbiacfkiakddiaaGreat
open Go.RowKit Go.Fl
set_option maxRecDepth 100000 in
theorem s_min_any (a b:Int) (w:World) :
  Calls Tryz.prog 183 #[.int .i64 a,.int .i64 b] w (fun e w' => e = .returned (.int .i64 (min a b)) ∧ w = w'):=by
 by_cases h:a < b
 ·have hm:min a b = a:=by omega
  rw [hm]
  go_enter Tryz.func183,Tryz.ntmps183
  go_wp2_with fail
  go_ret
  simp
 ·have hm:min a b = b:=by omega
  rw [hm]
  go_enter Tryz.func183,Tryz.ntmps183
  go_wp2_with fail
  go_ret
  simp

/-- One operation that makes a block and yields a value on it,which is a new one. -/
theorem one_mk2 {P:Program} {ops:Array Oper} {C:World → Prop} {Phi:FuncId → Array Value → Value → Prop} {Gd:Tmp → Value → World → Prop} {ad:List Tmp} {o:Oper} {a:Act} {K:Act → Prop} {w0:World} (val:Nat → Value) (b:Obj) (h0:C w0) (had:∀ d,o.dst = some d → d ∉ ad) (hw:Region.wanted o (yielded ops a.tmps) = true) (h:∀ w,C w → (execOp a.eval o).run P w = .ok (.value (val w.heap.size)) (w.alloc b))
  (hc':∀ w,C w → C (w.alloc b)) (hgd:∀ w,C w → Qg.gd Gd o.dst (val w.heap.size) (w.alloc b)) (hk:∀ w,C w → K (a.put o.dst (val w.heap.size))):Qg.step P ops C Phi Gd ad o a K:=by
 refine ⟨fun _ => ⟨⟨_,w0,h0,by rw [h w0 h0]⟩,fun w hc hs => ?_⟩,fun u hu => ?_⟩
 ·rw [h w hc];exact ⟨⟨hc' w hc,(Below.refl _ _).alloc (Nat.le_refl _) _⟩,hgd w hc,fun d hd hda => absurd hda (had d hd)⟩
 ·unfold Qg.vals at hu
  rw [if_pos hw] at hu
  obtain ⟨w,hc,hv⟩:=hu
  rw [h w hc] at hv
  simp only at hv
  rw [hv];exact hk w hc
/-- The word of a slot: what it was,or a new slice. -/
def Sl2 (W:World) (d1:Tmp) (u0:Value) (A:Array Value) (T:TypeId) (n:Nat) (d:Tmp) (v:Value) (w:World):Prop :=
 d = d1 → v = undef ∨ v = u0 ∨ ∃ g,v = .slice (some ⟨g,0,none⟩) n n ∧ W.heap.size ≤ g ∧ w.heap[g]? = some (.cells A T (0,0))
theorem sl2_lasts (W:World) (d1:Tmp) (u0:Value) (A:Array Value) (T:TypeId) (n:Nat):Qg.Lasts (Sl2 W d1 u0 A T n):=by
 refine ⟨fun d v w w' h hb hd => ?_,fun d w _ => .inl rfl⟩
 rcases h hd with h | h | ⟨g,h1,h2,h3⟩
 ·exact .inl h
 ·exact .inr (.inl h)
 ·exact .inr (.inr ⟨g,h1,h2,by rw [hb.block g (block_lt h3)];exact h3⟩)
theorem sl2_start {W:World} {d1:Tmp} {u0:Value} {A:Array Value} {T:TypeId} {n:Nat} {a:Act} {w:World} (h:a.tmps.getD d1 undef = u0):Qg.E (Sl2 W d1 u0 A T n) [] a w:=by
 refine ⟨fun d hd => .inr (.inl (by rw [hd];exact h)),?_,?_⟩ <;> (intro d hd;cases hd)
theorem sl2_no {W:World} {d1 d:Tmp} {u0:Value} {A:Array Value} {T:TypeId} {n:Nat} {v:Value} {w:World} (h1:d ≠ d1):Qg.gd (Sl2 W d1 u0 A T n) (some d) v w:=fun h => absurd h h1
theorem sl2_one {W:World} {d1:Tmp} {u0:Value} {A:Array Value} {T:TypeId} {n:Nat} {w:World} (hb:Below W.heap.size W w):Qg.gd (Sl2 W d1 u0 A T n) (some d1) (.slice (some ⟨w.heap.size,0,none⟩) n n) (w.alloc (.cells A T)) :=
 fun _ => .inr (.inr ⟨_,rfl,hb.size,heap_new _ _⟩)
/-- A slot holds no slice of a block that is still to come. -/
def OldS (s:Value) (w:World):Prop:=∀ g n m,s = .slice (some ⟨g,0,none⟩) n m → g < w.heap.size

inductive PhiMin:FuncId → Array Value → Value → Prop
 | mn (a b:Int):PhiMin 183 #[.int .i64 a,.int .i64 b] (.int .i64 (min a b))


set_option maxRecDepth 100000 in
set_option maxHeartbeats 4000000 in
theorem s_tiles_any (a b c d e f wd:Nat) (nx ny s:Int) (cb c0:Nat) (w:World) (hc:CamIn a b c d e f wd nx ny cb c0 w) (hx:1 ≤ nx ∧ nx ≤ 12) (hy:1 ≤ ny ∧ ny ≤ 12) (hs:1 ≤ s ∧ s ≤ 12) :
  Calls Tryz.prog 113 #[.pointer (some ⟨cb,c0,none⟩),.int .i64 s] w (fun e' w' => ∃ v,e' = .returned v ∧ w'.ownsRow w.heap.size 99 4 v (tilL nx ny s).length (ft (tilL nx ny s)) ∧ Below w.heap.size w w'):=by
 obtain ⟨hx1,hx2⟩:=hx
 obtain ⟨hy1,hy2⟩:=hy
 obtain ⟨hs1,hs2⟩:=hs
 have hkept:=hc.kept
 have hTl:(tilL nx ny s).length ≤ 144:=tilesT_len nx ny s 12 0
 obtain ⟨T,hTe⟩:∃ T,Hid (tilL nx ny s = T):=⟨_,rfl⟩
 rw [hTe.out] at hTl ⊢
 clear hc
 go_enter Tryz.func113,Tryz.ntmps113
 have W4b:Below w.heap.size w (w.alloc (.cells #[] 99)):=(Below.refl _ _).alloc (Nat.le_refl _) _
 go_wp2_with fail
 have hkept4:=Lib.hid hkept
 go_loopw [5,6,47] (fun v i u47 wr => ∃ (y:Int) (g:Nat) (acc:List Tl),i = .int .i64 y ∧ (0 ≤ y ∧ y ≤ 24) ∧ ny - y ≤ (g:Int) ∧ acc ++ tilesT nx ny s g y = T ∧ w.heap.size ≤ wr.heap.size ∧ wr.ownsRow w.heap.size 99 4 v acc.length (ft acc) ∧ Below w.heap.size w wr ∧ OldS u47 wr) (fun _ i _ _ => (30 - intOf i).toNat)
 case atStart => exact ⟨0,12,[],rfl,by omega,by omega,by rw [List.nil_append];exact hTe.out,by simp,World.ownsRow_lit w #[] 0 (Nat.le_refl _) (by unfold maxLen;omega) rfl,W4b,fun g n m h => (by cases h)⟩
 case round =>
  obtain ⟨y,g,acc,rfl,⟨hy0,hy24⟩,hg,hT,hsz,hown,Wb,hold⟩:=hrel
  have hkept:=keep hkept4.out Wb
  have hK:=hkept;simp only [Kept,ka,kb,kc,kd,ke,kfa,kga] at hK
  by_cases hlt:y < ny
  ·obtain ⟨g,rfl⟩:∃ g',g = g' + 1:=⟨g - 1,by omega⟩
   rw [tilesT,if_pos hlt] at hT
   obtain ⟨R,hR⟩:∃ R,Hid (tilesT nx ny s g (y + s) = R):=⟨_,rfl⟩
   rw [hR.out] at hT
   go_wp2_with fail
   go_loopw [5,7,47] (fun v i u47 wr => ∃ (x:Int) (k:Nat) (acc:List Tl),i = .int .i64 x ∧ (0 ≤ x ∧ x ≤ 24) ∧ nx - x ≤ (k:Int) ∧ acc ++ (rowT nx ny s y k x ++ R) = T ∧ w.heap.size ≤ wr.heap.size ∧ wr.ownsRow w.heap.size 99 4 v acc.length (ft acc) ∧ Below w.heap.size w wr ∧ OldS u47 wr) (fun _ i _ _ => (30 - intOf i).toNat)
   case atStart => exact ⟨0,12,acc,rfl,by omega,by omega,hT,hsz,hown,Wb,hold⟩
   case round =>
    obtain ⟨x,k,acc2,rfl,⟨hx0,hx24⟩,hk,hT2,hsz2,hown2,Wb2,hold2⟩:=hrel
    have hkept:=keep hkept4.out Wb2
    clear hK
    have hK:=hkept;simp only [Kept,ka,kb,kc,kd,ke,kfa,kga] at hK
    by_cases hlx:x < nx
    ·obtain ⟨k,rfl⟩:∃ k',k = k' + 1:=⟨k - 1,by omega⟩
     rw [rowT,if_pos hlx] at hT2
     have hlen2:acc2.length ≤ 1000:=by have:=congrArg List.length hT2;simp at this;omega
     have hw1:IntKind.i64.wrap (nx - x) = nx - x:=by rw [IntKind.wrap_i64];omega
     have hw2:IntKind.i64.wrap (ny - y) = ny - y:=by rw [IntKind.wrap_i64];omega
     obtain ⟨p,hp⟩:∃ p,min s (nx - x) = p:=⟨_,rfl⟩
     obtain ⟨q,hq⟩:∃ q,min s (ny - y) = q:=⟨_,rfl⟩
     rw [hp,hq] at hT2
     have hT3:=Lib.hid hT2
     have hown3:=Lib.hid hown2
     clear hT hT2 hown Wb hown2
     go_upto_region 8 with fail
     refine Qg.wp_gd 21 (by kernel_rfl) (by kernel_rfl) PhiMin (Sl2 wr 47 u47 #[.int .i64 x,.int .i64 y,.int .i64 p,.int .i64 q] 99 1) [] (sl2_lasts ..) (sl2_start rfl) ?_
     intro hC0
     repeat (first | (refine Qg.walk_step fun K hK => ?_;apply Qg.one_det hC0 (by intro d _ hd;cases hd) rfl;(focus (intro w' hw';have HK:=keep hkept hw';simp only [Kept,ka,kb,kc,kd,ke,kfa,kga] at HK;go_simp;first | done | rfl));(focus (intro w' hw' hs;exact sl2_no (by decide)));go_simp;refine hK _ ?_;clear hK K) | (refine Qg.walk_step fun K hK => ?_;apply Qg.one_call _ _ hC0 (by intro d _ hd;cases hd) rfl;(focus (intro w' hw';go_simp;first | done | exact ⟨rfl,rfl⟩));(focus (exact ⟨_,PhiMin.mn _ _⟩));(focus (intro w' hw' hs;go_at_call 183;refine (s_min_any _ _ _).mono ?_;rintro _ w2 ⟨rfl,rfl⟩;exact ⟨_,rfl,PhiMin.mn _ _,sl2_no (by decide),hw',Below.refl _ _⟩));intro v hv;cases hv;(first | rw [hp] | rw [hq]);go_simp;refine hK _ ?_;clear hK K) | (refine Qg.walk_step fun K hK => ?_;refine one_mk2 (fun g => .slice (some ⟨g,0,none⟩) 1 1) (.cells #[.int .i64 x,.int .i64 y,.int .i64 p,.int .i64 q] 99) hC0 (by intro d _ hd;cases hd) rfl ?_ ?_ ?_ ?_;(focus (intro w' hw';go_simp;first | done | rfl));(focus (intro w' hw';exact hw'.alloc hw'.size _));(focus (intro w' hw';exact sl2_one hw'));intro wg hwg;replace hwg:=hwg.size;revert hwg;generalize wg.heap.size = gs;intro hgs;clear wg;go_simp;refine hK _ ?_;clear hK K))
     refine Qg.walk_nil fun w5 hw5 hE => ?_
     rcases hE.1 47 rfl with h | h | ⟨g',h,hg5,hgc⟩
     ·cases h
     ·exact absurd (hold2 _ _ _ h.symm) (Nat.not_lt.2 hgs)
     injection h with h
     injection h with h
     injection h with h
     subst h
     clear hE hC0
     have hown5:=owns_below hown3.out hw5
     have Wb5:=below_step Wb2 hw5
     simp only [List.drop_succ_cons,List.drop_zero]
     refine wp_appT w.heap.size rfl (.tmp 27) (.tmp 47) rfl _ _ acc2 rfl hown5 gs 1 (x,y,p,q) rfl (b4_heap hgc) hlen2 (Nat.le_trans hsz2 hw5.size) ?_
     intro v6 w6 hown6 hg6
     go_wp2_with fail
     refine ⟨⟨x + s,k,acc2 ++ [(x,y,p,q)],rfl,by omega,by omega,by rw [List.append_assoc];exact hT3.out,Nat.le_trans (Nat.le_trans hsz2 hw5.size) hg6.size,by rw [List.length_append];exact hown6,grown_below Wb5 hown5 hg6 (Nat.le_refl _),fun g n m h => ?_⟩,by simp [intOf];omega⟩
     injection h with h
     injection h with h
     injection h with h
     subst h
     exact Nat.lt_of_lt_of_le (block_lt hgc) hg6.size
    ·rw [rowT_end _ _ _ _ _ _ hlx,List.nil_append] at hT2
     have hH:=Lib.hid hown2
     have hO2:=Lib.hid hold2
     clear hown2 hown hold hold2
     go_wp2_with fail
     exact ⟨⟨y + s,g,acc2,rfl,by omega,by omega,by rw [hR.out];exact hT2,hsz2,hH.out,Wb2,hO2.out⟩,by simp [intOf];omega⟩
  ·rw [tilesT_end _ _ _ _ _ hlt,List.append_nil] at hT
   subst hT
   have hH:=Lib.hid hown
   clear hown hold
   go_wp2_with fail
   go_ret
   exact ⟨_,rfl,hH.out,Wb⟩
end Go.Proofs.YtbiacfkiakddiaaGreat

namespace Go.Proofs.YtbiacfkiakddiaaGreat
open Go.RowKit Go.Fl
set_option maxRecDepth 100000 in
set_option maxHeartbeats 4000000 in
theorem s_checks_any (ns:List PN) (hnum:∀ n ∈ ns,n.nums.length < 10000000) (nb no cap a b c d e f wd:Nat) (nx ny:Int) (lx ly lz near most:Nat) (n:Int) (bp:Option Addr) (w:World) (hbp:ns ≠ [] → bp = some ⟨nb,no,none⟩) (hsh:∀ i (h:i < ns.length),NodeIn ns[i] nb (no + i * 4) w) (hlen:ns.length < 10000000) (hvok:validS ns = true → OkAll ns) (s:Int) :
  Calls Tryz.prog 56 #[ViewV bp ns.length cap a b c d e f wd nx ny lx ly lz near most n,.int .i64 s] w (RetIl (viewOk (validS ns) (cv a b c) (cv d e f) (cn .f32 wd) nx ny (cv lx ly lz) (cn .f32 near) (cn .f32 most) n && szOk s) (chkL (fun x y => shadeF (atS ns) capS (fun F T mo => marchGs (atS ns) F T (slopeF ns) (cn .f32 near) mo n.toNat 1 0) (cv a b c) (wayP (cv a b c) (cv d e f) (cn .f32 wd) nx ny x y) (cv lx ly lz) (cn .f32 near) (cn .f32 most)) (tilL nx ny s)) w):=by
 obtain ⟨ok,hOk⟩:∃ ok,Hid (ok = (viewOk (validS ns) (cv a b c) (cv d e f) (cn .f32 wd) nx ny (cv lx ly lz) (cn .f32 near) (cn .f32 most) n && szOk s)):=⟨_,rfl⟩
 rw [← hOk.out]
 obtain ⟨L9,hL9⟩:∃ L,Hid (chkL (fun x y => shadeF (atS ns) capS (fun F T mo => marchGs (atS ns) F T (slopeF ns) (cn .f32 near) mo n.toNat 1 0) (cv a b c) (wayP (cv a b c) (cv d e f) (cn .f32 wd) nx ny x y) (cv lx ly lz) (cn .f32 near) (cn .f32 most)) (tilL nx ny s) = L):=⟨_,rfl⟩
 rw [hL9.out]
 go_enter Tryz.func56,Tryz.ntmps56
 go_upto_region 1 with fail
 generalize hW:w.alloc (.cells #[.slice bp ns.length cap,F1 a,F1 b,F1 c,F1 d,F1 e,F1 f,F1 wd,.int .i64 nx,.int .i64 ny,F1 lx,F1 ly,F1 lz,F1 near,F1 most,.int .i64 n] 86) = W1 at *
 have W1b:Below w.heap.size w W1:=by subst hW;exact (by repeat' (first | exact Below.refl _ _ | exact Nat.le_refl _ | refine below_drewN ?_ _ | refine Below.alloc ?_ (by simp <;> omega) _ | refine Below.setCell ?_ (by simp <;> omega) _ | refine below_step ?_ (by assumption)))
 have hkept:Kept [(⟨w.heap.size,0,none⟩,.slice bp ns.length cap),(⟨w.heap.size,1,none⟩,F1 a),(⟨w.heap.size,2,none⟩,F1 b),(⟨w.heap.size,3,none⟩,F1 c),(⟨w.heap.size,4,none⟩,F1 d),(⟨w.heap.size,5,none⟩,F1 e),(⟨w.heap.size,6,none⟩,F1 f),(⟨w.heap.size,7,none⟩,F1 wd),(⟨w.heap.size,8,none⟩,.int .i64 nx),(⟨w.heap.size,9,none⟩,.int .i64 ny),(⟨w.heap.size,10,none⟩,F1 lx),(⟨w.heap.size,11,none⟩,F1 ly),(⟨w.heap.size,12,none⟩,F1 lz),(⟨w.heap.size,13,none⟩,F1 near),(⟨w.heap.size,14,none⟩,F1 most),(⟨w.heap.size,15,none⟩,.int .i64 n)] [] W1:=by
  subst hW;simp only [Kept,ka,kb,kc,kd,ke,kfa,kga];(first | (go_simp;done) | (simp [World.cell?,World.frozen?,World.alloc,Array.getElem?_push];done))
 clear hW
 have hK:=hkept;simp only [Kept,ka,kb,kc,kd,ke,kfa,kga] at hK
 have hvv:Calls Tryz.prog 98 #[.pointer (some ⟨w.heap.size,0,none⟩)] W1 (fun e' w'' => e' = .returned (.bool (viewOk (validS ns) (cv a b c) (cv d e f) (cn .f32 wd) nx ny (cv lx ly lz) (cn .f32 near) (cn .f32 most) n)) ∧ Below W1.heap.size W1 w''):=s_scene_any w.heap.size ns hnum nb no cap a b c d e f wd nx ny lx ly lz near most n bp W1 hbp (fun i h => (hsh i h).keep W1b) hlen (by have hK2:=hkept;simp only [Kept,ka,kb,kc,kd,ke,kfa,kga] at hK2;simp only [Kept,ka,kb,kc,kd,ke,kfa,kga];simp [hK2])
 have R1:=Below.refl W1.heap.size W1
 cases hval:viewOk (validS ns) (cv a b c) (cv d e f) (cn .f32 wd) nx ny (cv lx ly lz) (cn .f32 near) (cn .f32 most) n
 ·have hno:ok = false:=by rw [hOk.out,hval];rfl
  rw [hval] at hvv
  clear hOk hsh hbp hnum hL9
  subst hno
  go_wp2_with (go_at_call 98;refine hvv.mono ?_;rintro _ w4 ⟨rfl,hb1⟩;have R1:=below_step R1 hb1;have hkept:=keepT hkept hb1 rfl;clear hK;have hK:=hkept;simp only [Kept,ka,kb,kc,kd,ke,kfa,kga] at hK)
  exact bodyPost_ret (v:=.tuple #[.slice none 0 0,.bool false]) (by simp [results,Tryz.results56,go_sem];first | done | (rfl;done) | (repeat' constructor)) rfl (retIl_no rfl (below_step W1b R1))
 obtain ⟨hvf,hcam,hmar⟩:=view_parts hval
 rw [hval] at hvv
 obtain ⟨p1,h1⟩:∃ p,(decide (1 ≤ s) && decide (s ≤ 12)) = p:=⟨_,rfl⟩
 cases p1
 ·have hno:ok = false:=by rw [hOk.out,hval];simpa [szOk] using h1
  clear hOk hsh hbp hnum hval hL9
  subst hno
  go_wp2_with (first
   | (go_at_call 98;refine hvv.mono ?_;rintro _ w4 ⟨rfl,hb1⟩;have R1:=below_step R1 hb1;have hkept:=keepT hkept hb1 rfl;clear hK;have hK:=hkept;simp only [Kept,ka,kb,kc,kd,ke,kfa,kga] at hK)
   | (go_at_call 71;refine (s_in_any _ _ _ _).mono ?_;rintro _ wi ⟨rfl,rfl⟩;rw [h1]))
  exact bodyPost_ret (v:=.tuple #[.slice none 0 0,.bool false]) (by simp [results,Tryz.results56,go_sem];first | done | (rfl;done) | (repeat' constructor)) rfl (retIl_no rfl (below_step W1b R1))
 have hs2:1 ≤ s ∧ s ≤ 12:=by simpa using h1
 have hyes:ok = true:=by rw [hOk.out,hval];exact h1
 subst hyes
 obtain ⟨m,rfl⟩:=Int.eq_ofNat_of_zero_le (show 0 ≤ n by have:=mar_steps hmar;omega)
 have hm64:m ≤ 64:=by have:=mar_steps hmar;omega
 have hokk:=hvok hvf
 have hl:1 ≤ ns.length ∧ ns.length ≤ 16:=by
  have hvs:=hvf
  simp only [validS,Bool.and_eq_true,decide_eq_true_eq] at hvs
  exact hvs.1
 have hb:=hbp (by intro h;rw [h] at hl;simp at hl)
 subst hb
 obtain ⟨⟨hx1,hx2⟩,hy1,hy2⟩:=cam_sizes hcam
 have hV0:∀ w',Below W1.heap.size W1 w' → ViewIn ns w.heap.size nb no cap a b c d e f wd nx ny lx ly lz near most m w':=fun w' hb => ⟨by have hK2:=keep hkept hb;simp only [Kept,ka,kb,kc,kd,ke,kfa,kga] at hK2;simp only [Kept,ka,kb,kc,kd,ke,kfa,kga];simp [hK2],fun i h => (hsh i h).keep (below_step W1b hb)⟩
 clear hsh hbp hOk hval
 have hTin:∀ t ∈ tilL nx ny s,InPic nx ny t:=tilesT_in hs2.1 12 0 (Int.le_refl _)
 have hTl:(tilL nx ny s).length ≤ 144:=tilesT_len nx ny s 12 0
 have hti:∀ w',Below W1.heap.size W1 w' → Calls Tryz.prog 113 #[.pointer (some ⟨w.heap.size,1,none⟩),.int .i64 s] w' (fun e' w'' => ∃ v,e' = .returned v ∧ w''.ownsRow w'.heap.size 99 4 v (tilL nx ny s).length (ft (tilL nx ny s)) ∧ Below w'.heap.size w' w''):=fun w' h => s_tiles_any a b c d e f wd nx ny s w.heap.size 1 w' (hV0 w' h).cam ⟨hx1,hx2⟩ ⟨hy1,hy2⟩ hs2
 obtain ⟨SH,hSH⟩:∃ SH,Hid (SH = (fun x y => shadeF (atS ns) capS (fun F T mo => marchGs (atS ns) F T (slopeF ns) (cn .f32 near) mo (m:Int).toNat 1 0) (cv a b c) (wayP (cv a b c) (cv d e f) (cn .f32 wd) nx ny x y) (cv lx ly lz) (cn .f32 near) (cn .f32 most))):=⟨_,rfl⟩
 have hLf:=hL9.out
 rw [← hSH.out] at hLf
 have hren:∀ tb tt X Y (u v:Nat) w',(0 ≤ X ∧ X ≤ 12) → (0 ≤ Y ∧ Y ≤ 12) → 1 ≤ u → u ≤ 12 → 1 ≤ v → v ≤ 12 → Below W1.heap.size W1 w' → Kept [(⟨tb,tt,none⟩,.int .i64 X),(⟨tb,tt + 1,none⟩,.int .i64 Y),(⟨tb,tt + 2,none⟩,.int .i64 (u:Int)),(⟨tb,tt + 3,none⟩,.int .i64 (v:Int))] [] w' → Calls Tryz.prog 109 #[.pointer (some ⟨w.heap.size,0,none⟩),.pointer (some ⟨tb,tt,none⟩)] w' (fun e w'' => e = .returned (.string ⟨(picB SH X Y u v).toArray⟩) ∧ Below w'.heap.size w' w''):=fun tb tt X Y u v w' hX hY hu1 hu hv1 hv h hT => by
  rw [hSH.out]
  exact s_part_any w.heap.size tb tt _ X Y u v hX hY hu1 hu hv1 hv w' hT (fun x y w'' hb => s_shade_any ns hvf hokk hnum w.heap.size nb no cap a b c d e f wd nx ny lx ly lz near most m hm64 x y w'' ((hV0 w' h).keep hb))
 clear hL9 hSH hnum hvf hmar hcam hokk hvok hV0
 go_upto_region 4 with (first
   | (go_at_call 98;refine hvv.mono ?_;rintro _ w4 ⟨rfl,hb1⟩;have R1:=below_step R1 hb1;have hkept:=keepT hkept hb1 rfl;clear hK;have hK:=hkept;simp only [Kept,ka,kb,kc,kd,ke,kfa,kga] at hK)
   | (go_at_call 71;refine (s_in_any _ _ _ _).mono ?_;rintro _ wi ⟨rfl,rfl⟩;rw [h1])
   | (go_at_call 113;refine (hti _ R1).mono ?_;rintro _ w5 ⟨v5,rfl,ho5,hb1⟩;have R1:=below_step R1 hb1;have hkept:=keepT hkept hb1 rfl;clear hK;have hK:=hkept;simp only [Kept,ka,kb,kc,kd,ke,kfa,kga] at hK))
 obtain ⟨tp,tg,tq,tc,rfl,htp,hT5⟩:=row_tiles ho5 rfl
 clear hti hvv ho5 hb1 hK
 generalize tilL nx ny s = ts at *
 have hpos:(0:Int) ≤ (ts.length:Int):=by omega
 have h5s:=R1.size
 have h5w:=W1b.size
 have W5b:Below w5.heap.size w5 (w5.alloc (.cells #[] 2)):=(Below.refl _ _).alloc (Nat.le_refl _) _
 have hK:=hkept;simp only [Kept,ka,kb,kc,kd,ke,kfa,kga] at hK
 go_wp2_with fail
 clear hkept hK
 go_loopw [7,22] (fun v i wr => ∃ (k:Nat),k ≤ ts.length ∧ i = .int .i64 (k:Int) ∧ w5.heap.size ≤ wr.heap.size ∧ wr.ownsRow w5.heap.size 2 1 v k (il (chkL SH (ts.take k))) ∧ Below w5.heap.size w5 wr) (fun _ i _ => ts.length - (intOf i).toNat)
 case atStart => exact ⟨0,by omega,rfl,by simp,World.ownsRow_lit w5 #[] 0 (Nat.le_refl _) (by unfold maxLen;omega) rfl,W5b⟩
 case round =>
  obtain ⟨k,hk,rfl,hsz,hown,Wb⟩:=hrel
  by_cases hlt:k < ts.length
  ·have hlt':(k:Int) < (ts.length:Int):=by omega
   have h0:(0:Int) ≤ (k:Int):=by omega
   have hne:=htp (by intro h;rw [h] at hlt;simp at hlt)
   subst hne
   have hkept:=(hT5.keep Wb) k hlt
   obtain ⟨X,Y,u,v,hte,hX,hY,hu1,hu,hv1,hv⟩:=tile_nat hx2 hy2 (hTin _ (List.getElem_mem hlt))
   have hnx:=chkL_next SH ts k hlt
   rw [hte] at hkept hnx
   simp only at hkept
   unfold chkT at hnx
   simp only [Int.toNat_natCast] at hnx
   have hpl:=picB_len SH X Y u v
   have hpl2:v * u ≤ 12 * 12:=Nat.mul_le_mul hv hu
   have hre:=hren tg (tq + k * 4) X Y u v wr hX hY hu1 hu hv1 hv (R1.trans (Wb.mono h5s)) hkept
   generalize picB SH X Y u v = Pb at *
   generalize chkL SH (ts.take k) = L at *
   have hP:Pb.length ≤ 1000000:=by omega
   obtain ⟨cc,hcc⟩:∃ cc,chk 0 Pb = cc:=⟨_,rfl⟩
   rw [hcc] at hnx
   have hnx2:=Lib.hid hnx
   clear hnx hTin hren
   have hK:=hkept;simp only [Kept,ka,kb,kc,kd,ke,kfa,kga] at hK
   go_wp2_with (first
    | (go_at_call 109;refine hre.mono ?_;rintro _ w6 ⟨rfl,hb1⟩;have Wb6:=below_step Wb hb1;have hown6:=owns_below hown hb1;clear hown)
    | (go_at_call 114;refine (s_check_any 0 ⟨by decide,by decide⟩ Pb hP _).mono ?_;rintro _ w7 ⟨rfl,rfl⟩;rw [hcc])
    | (at_builtin;refine wp_appI w5.heap.size rfl (.tmp 25) (.tmp 31) rfl _ _ L rfl (hown6.alloc _) w6.heap.size cc rfl (by simp) (by omega) (by have:=Wb6.size;simp;omega) ?_;intro v7 w8 hown8 hg8))
   refine ⟨⟨k + 1,by omega,by simp,Nat.le_trans Wb6.size (by have:=hg8.size;simp at this;omega),by rw [hnx2.out];exact hown8,grown_below (Wb6.alloc Wb6.size _) (hown6.alloc _) hg8 (Nat.le_refl _)⟩,by simp [intOf];omega⟩
  ·obtain rfl:k = ts.length:=by omega
   rw [List.take_of_length_le (Nat.le_refl _),hLf] at hown
   have hcl:L9.length = ts.length:=by rw [← hLf];unfold chkL;rw [List.length_map]
   go_wp2_with fail
   exact bodyPost_ret (v:=.tuple #[u7,.bool true]) (by simp [results,Tryz.results56,go_sem];first | done | (rfl;done) | (repeat' constructor)) rfl (retIl_yes rfl (by rw [hcl];exact row_low hown (by omega)) (below_step W1b (R1.trans (Wb.mono h5s))))
end Go.Proofs.YtbiacfkiakddiaaGreat
