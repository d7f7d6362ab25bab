/-
 Lemmas: D12,D24,D26,D31.
-/
import Derived.Test.YtbiacfkiakddiaaGreatOci
import Derived.Below
import Derived.BigRegion
import Derived.ChangeAlike
import Derived.Deep.AppendLies
import Derived.Deep.Cut
import Derived.Deep.CutRange
import Derived.Deep.DeepCutAuto
import Derived.Deep.Draws
import Derived.Deep.Onto
import Derived.Deep.RegionHeld
import Derived.KernelRfl
import Derived.Laws.FloatArith
import Derived.Laws.FloatBits
import Derived.Laws.IdiomStrings
import Derived.Laws.MakeOwn
import Derived.Lib.Hide
import Derived.Outline
import Derived.OwnWalk
import Derived.RegionTactic
import Derived.StillTail
import Derived.Test.YtbiacfkiakddiaaGreatChecked
import Derived.WalkKit
import Derived.WalkLawsBesides
import Ieee.Arith
set_option linter.unusedVariables false
set_option linter.unusedSimpArgs false
namespace Go.Proofs.YtbiacfkiakddiaaGreat
open Go.RowKit Go.Fl
set_option maxRecDepth 100000 in
set_option maxHeartbeats 2000000 in
theorem s_pix_any (a b c d e f wd:Nat) (nx ny x y:Int) (cb c0:Nat) (w:World) (hc:CamIn a b c d e f wd nx ny cb c0 w) (hok:camOk (cv a b c) (cv d e f) (cn .f32 wd) nx ny = true) :
  Calls Tryz.prog 99 #[.pointer (some ⟨cb,c0,none⟩),.int .i64 x,.int .i64 y] w (fun e' w' => e' = .returned (.bool (pixOk nx ny x y)) ∧ Below w.heap.size w w'):=by
 obtain ⟨U,hU⟩:∃ U,Hid (pixOk nx ny x y = U):=⟨_,rfl⟩
 rw [hU.out]
 have hUo:=hU.out
 unfold pixOk at hUo
 clear hU
 obtain ⟨⟨hx1,hx2⟩,hy1,hy2⟩:=cam_sizes hok
 have hkept:=hc.kept
 clear hc hok
 have hK:=hkept;simp only [Kept,ka,kb,kc,kd,ke,kfa,kga] at hK
 have t1:True:=trivial
 go_enter Tryz.func99,Tryz.ntmps99
 cases h1:(decide (0 ≤ x) && decide (x ≤ nx - 1)) <;> cases h2:(decide (0 ≤ y) && decide (y ≤ ny - 1))
 all_goals
  rw [h1,h2] at hUo
  simp only [Bool.and_true,Bool.and_false] at hUo
  subst hUo
  go_wp2_with (first
   | (clear t1;go_at_call 71;refine (s_in_any _ _ _ _).mono ?_;rintro _ w5 ⟨rfl,rfl⟩;rw [h1])
   | (go_at_call 71;refine (s_in_any _ _ _ _).mono ?_;rintro _ w5 ⟨rfl,rfl⟩;rw [h2]))
  go_ret
  exact ⟨rfl,Below.refl _ _⟩
end Go.Proofs.YtbiacfkiakddiaaGreat

namespace Go.Proofs.YtbiacfkiakddiaaGreat
open Go.RowKit Go.Fl
theorem if_yesT {c:Prop} [Decidable c] {p q:Prop} (h:c) (hp:p):if c then p else q:=by rw [if_pos h];exact hp


set_option maxRecDepth 100000 in
set_option maxHeartbeats 4000000 in
theorem s_tile_no1 (a b c d e f wd:Nat) (nx ny X Y n h:Int) (cb c0 tb:Nat) (w:World) (hc:CamIn a b c d e f wd nx ny cb c0 w) (hT:Kept [(⟨tb,0,none⟩,.int .i64 X),(⟨tb,1,none⟩,.int .i64 Y),(⟨tb,2,none⟩,.int .i64 n),(⟨tb,3,none⟩,.int .i64 h)] [] w) (hok:camOk (cv a b c) (cv d e f) (cn .f32 wd) nx ny = true) (hp:pixOk nx ny X Y = false) :
  Calls Tryz.prog 110 #[.pointer (some ⟨cb,c0,none⟩),.pointer (some ⟨tb,0,none⟩)] w (fun e' w' => e' = .returned (.bool false) ∧ Below w.heap.size w w'):=by
 have hpx:∀ w',Below w.heap.size w w' → Calls Tryz.prog 99 #[.pointer (some ⟨cb,c0,none⟩),.int .i64 X,.int .i64 Y] w' (fun e' w'' => e' = .returned (.bool (pixOk nx ny X Y)) ∧ Below w'.heap.size w' w''):=fun w' hb => s_pix_any a b c d e f wd nx ny X Y cb c0 w' (hc.keep hb) hok
 rw [hp] at hpx
 have hkept:=kept_app hc.kept hT
 have hws:tb < w.heap.size:=some_lt (a:=⟨tb,0,none⟩) (by have:=hT;simp only [Kept,List.forall_mem_cons] at this;simp [this])
 clear hc hT hok hp
 obtain ⟨p1,hp1⟩:∃ p,p = false:=⟨_,rfl⟩
 rw [← hp1] at hpx
 have HP:=Lib.hid hp1
 clear hp1
 go_enter Tryz.func110,Tryz.ntmps110
 go_upto_region 1 with fail
 refine Qr.wp_below_all (by kernel_rfl) (by kernel_rfl) (PhiTl p1) ?_
 iterate 9 (refine Qr.walk_plain rfl fun K hK => ?_;apply Qr.one_det;(focus (intro w' hw';have HK:=keep hkept hw';simp only [Kept,ka,kb,kc,kd,ke,kfa,kga] at HK;go_simp;first | done | rfl));go_simp;refine hK _ ?_;clear hK K)
 (refine Qr.walk_plain rfl fun K hK => ?_;apply Qr.one_call;(focus (intro w' hw';go_simp;first | done | exact ⟨rfl,rfl⟩));(focus (intro w' hw'; go_at_call 99;refine (hpx _ (by first | exact hw' | exact below_step (Below.refl _ _) hw')).mono ?_;rintro _ w2 ⟨rfl,hb1⟩;exact ⟨_,rfl,by constructor,below_step hw' (by assumption),by assumption⟩));intro v hv2;obtain ⟨bv,rfl,HB⟩:∃ bv,v = .bool bv ∧ Hid (bv = p1):=(by cases hv2;exact ⟨_,rfl,rfl⟩);go_simp;refine hK _ ?_;clear hK K)
 rw [HP.out] at HB
 (refine Qr.walk_plain rfl fun K hK => ?_;apply Qr.one_det;(focus (intro w' hw';have HK:=keep hkept hw';simp only [Kept,ka,kb,kc,kd,ke,kfa,kga] at HK;go_simp;first | done | rfl));go_simp;refine hK _ ?_;clear hK K)
 iterate 14 (refine Qr.walk_step fun K hK => ?_;refine if_no (fun h => by have hb:=HB.out;subst hb;cases h) ?_;go_simp;refine hK _ ?_;clear hK K)
 (refine Qr.walk_plain rfl fun K hK => ?_;refine Qr.one_det (v:=.bool bv) (by intro w' hw';have hb0:=HB.out;subst hb0;go_simp) ?_;go_simp;refine hK _ ?_;clear hK K)
 (refine Qr.walk_plain rfl fun K hK => ?_;apply Qr.one_det;(focus (intro w' hw';have HK:=keep hkept hw';simp only [Kept,ka,kb,kc,kd,ke,kfa,kga] at HK;go_simp;first | done | rfl));go_simp;refine hK _ ?_;clear hK K)
 iterate 14 (refine Qr.walk_step fun K hK => ?_;refine if_no (fun h => by have hb:=HB.out;subst hb;cases h) ?_;go_simp;refine hK _ ?_;clear hK K)
 (refine Qr.walk_plain rfl fun K hK => ?_;refine Qr.one_det (v:=.bool bv) (by intro w' hw';have hb0:=HB.out;subst hb0;go_simp) ?_;go_simp;refine hK _ ?_;clear hK K)
 repeat (refine Qr.walk_plain rfl fun K hK => ?_;apply Qr.one_det;(focus (intro w' hw';have HK:=keep hkept hw';simp only [Kept,ka,kb,kc,kd,ke,kfa,kga] at HK;go_simp;first | done | rfl));go_simp;refine hK _ ?_;clear hK K)
 refine Qr.walk_nil fun w6 hw6 => ?_
 go_wp2_with fail
 go_ret
 exact ⟨by rw [HB.out];rfl,hw6⟩

set_option maxRecDepth 100000 in
set_option maxHeartbeats 4000000 in
theorem s_tile_go (p2 p3:Bool) (a b c d e f wd:Nat) (nx ny X Y n h:Int) (cb c0 tb:Nat) (w:World) (hc:CamIn a b c d e f wd nx ny cb c0 w) (hT:Kept [(⟨tb,0,none⟩,.int .i64 X),(⟨tb,1,none⟩,.int .i64 Y),(⟨tb,2,none⟩,.int .i64 n),(⟨tb,3,none⟩,.int .i64 h)] [] w) (hok:camOk (cv a b c) (cv d e f) (cn .f32 wd) nx ny = true) (hp:pixOk nx ny X Y = true) (h2:inI n 1 (nx - X) = p2) (h3:inI h 1 (ny - Y) = p3) :
  Calls Tryz.prog 110 #[.pointer (some ⟨cb,c0,none⟩),.pointer (some ⟨tb,0,none⟩)] w (fun e' w' => e' = .returned (.bool (p2 && p3)) ∧ Below w.heap.size w w'):=by
 have hpx:∀ w',Below w.heap.size w w' → Calls Tryz.prog 99 #[.pointer (some ⟨cb,c0,none⟩),.int .i64 X,.int .i64 Y] w' (fun e' w'' => e' = .returned (.bool (pixOk nx ny X Y)) ∧ Below w'.heap.size w' w''):=fun w' hb => s_pix_any a b c d e f wd nx ny X Y cb c0 w' (hc.keep hb) hok
 obtain ⟨⟨hx1,hx2⟩,hy1,hy2⟩:=cam_sizes hok
 have hXY:(0 ≤ X ∧ X ≤ nx - 1) ∧ (0 ≤ Y ∧ Y ≤ ny - 1):=by simpa [pixOk] using hp
 have hw1:IntKind.i64.wrap (nx - X) = nx - X:=by rw [IntKind.wrap_i64];omega
 have hw2:IntKind.i64.wrap (ny - Y) = ny - Y:=by rw [IntKind.wrap_i64];omega
 rw [← hw1] at h2
 rw [← hw2] at h3
 rw [hp] at hpx
 have hkept:=kept_app hc.kept hT
 clear hc hT hok hp hw1 hw2 hXY
 have H2:=Lib.hid h2
 have H3:=Lib.hid h3
 obtain ⟨p1,hp1⟩:∃ p,p = true:=⟨_,rfl⟩
 rw [← hp1] at hpx
 have HP:=Lib.hid hp1
 clear hp1 h2 h3 hx1 hx2 hy1 hy2
 go_enter Tryz.func110,Tryz.ntmps110
 go_upto_region 1 with fail
 refine Qr.wp_below_all (by kernel_rfl) (by kernel_rfl) (PhiTl p1) ?_
 iterate 9 (refine Qr.walk_plain rfl fun K hK => ?_;apply Qr.one_det;(focus (intro w' hw';have HK:=keep hkept hw';simp only [Kept,ka,kb,kc,kd,ke,kfa,kga] at HK;go_simp;first | done | rfl));go_simp;refine hK _ ?_;clear hK K)
 (refine Qr.walk_plain rfl fun K hK => ?_;apply Qr.one_call;(focus (intro w' hw';go_simp;first | done | exact ⟨rfl,rfl⟩));(focus (intro w' hw'; go_at_call 99;refine (hpx _ (by first | exact hw' | exact below_step (Below.refl _ _) hw')).mono ?_;rintro _ w2 ⟨rfl,hb1⟩;exact ⟨_,rfl,by constructor,below_step hw' (by assumption),by assumption⟩));intro v hv2;obtain ⟨bv,rfl,HB⟩:∃ bv,v = .bool bv ∧ Hid (bv = p1):=(by cases hv2;exact ⟨_,rfl,rfl⟩);go_simp;refine hK _ ?_;clear hK K)
 rw [HP.out] at HB
 (refine Qr.walk_plain rfl fun K hK => ?_;apply Qr.one_det;(focus (intro w' hw';have HK:=keep hkept hw';simp only [Kept,ka,kb,kc,kd,ke,kfa,kga] at HK;go_simp;first | done | rfl));go_simp;refine hK _ ?_;clear hK K)
 iterate 13 (refine Qr.walk_step fun K hK => ?_;refine if_yesT (by have hb:=HB.out;subst hb;rfl) ?_;apply Qr.one_det;(focus (intro w' hw';have HK:=keep hkept hw';simp only [Kept,ka,kb,kc,kd,ke,kfa,kga] at HK;go_simp;first | done | rfl));go_simp;refine hK _ ?_;clear hK K)
 (refine Qr.walk_step fun K hK => ?_;refine if_yesT (by have hb:=HB.out;subst hb;rfl) ?_;apply Qr.one_call;(focus (intro w' hw';go_simp;first | done | exact ⟨rfl,rfl⟩));(focus (intro w' hw';go_at_call 71;refine (s_in_any _ _ _ _).mono ?_;rintro _ w2 ⟨rfl,rfl⟩;exact ⟨_,rfl,by constructor,hw',Below.refl _ _⟩));intro v hv2;obtain ⟨rv,rfl,HR⟩:∃ rv,v = .bool rv ∧ Hid (rv = p2):=(by cases hv2;exact ⟨_,rfl,H2⟩);go_simp;refine hK _ ?_;clear hK K)
 (refine Qr.walk_plain rfl fun K hK => ?_;refine Qr.one_det (v:=.bool rv) (by intro w' hw';have hb0:=HB.out;subst hb0;go_simp) ?_;go_simp;refine hK _ ?_;clear hK K)
 (refine Qr.walk_plain rfl fun K hK => ?_;apply Qr.one_det;(focus (intro w' hw';have HK:=keep hkept hw';simp only [Kept,ka,kb,kc,kd,ke,kfa,kga] at HK;go_simp;first | done | rfl));go_simp;refine hK _ ?_;clear hK K)
 cases p2
 ·iterate 14 (refine Qr.walk_step fun K hK => ?_;refine if_no (fun h => by have hb:=HR.out;subst hb;cases h) ?_;go_simp;refine hK _ ?_;clear hK K)
  (refine Qr.walk_plain rfl fun K hK => ?_;refine Qr.one_det (v:=.bool rv) (by intro w' hw';have hb0:=HR.out;subst hb0;go_simp) ?_;go_simp;refine hK _ ?_;clear hK K)
  repeat (refine Qr.walk_plain rfl fun K hK => ?_;apply Qr.one_det;(focus (intro w' hw';have HK:=keep hkept hw';simp only [Kept,ka,kb,kc,kd,ke,kfa,kga] at HK;go_simp;first | done | rfl));go_simp;refine hK _ ?_;clear hK K)
  refine Qr.walk_nil fun w6 hw6 => ?_
  go_wp2_with fail
  go_ret
  exact ⟨by rw [HR.out];rfl,hw6⟩
 ·iterate 13 (refine Qr.walk_step fun K hK => ?_;refine if_yesT (by have hb:=HR.out;subst hb;rfl) ?_;apply Qr.one_det;(focus (intro w' hw';have HK:=keep hkept hw';simp only [Kept,ka,kb,kc,kd,ke,kfa,kga] at HK;go_simp;first | done | rfl));go_simp;refine hK _ ?_;clear hK K)
  (refine Qr.walk_step fun K hK => ?_;refine if_yesT (by have hb:=HR.out;subst hb;rfl) ?_;apply Qr.one_call;(focus (intro w' hw';go_simp;first | done | exact ⟨rfl,rfl⟩));(focus (intro w' hw';go_at_call 71;refine (s_in_any _ _ _ _).mono ?_;rintro _ w2 ⟨rfl,rfl⟩;exact ⟨_,rfl,by constructor,hw',Below.refl _ _⟩));intro v hv2;obtain ⟨sv,rfl,HS⟩:∃ sv,v = .bool sv ∧ Hid (sv = p3):=(by cases hv2;exact ⟨_,rfl,H3⟩);go_simp;refine hK _ ?_;clear hK K)
  (refine Qr.walk_plain rfl fun K hK => ?_;refine Qr.one_det (v:=.bool sv) (by intro w' hw';have hb0:=HR.out;subst hb0;go_simp) ?_;go_simp;refine hK _ ?_;clear hK K)
  repeat (refine Qr.walk_plain rfl fun K hK => ?_;apply Qr.one_det;(focus (intro w' hw';have HK:=keep hkept hw';simp only [Kept,ka,kb,kc,kd,ke,kfa,kga] at HK;go_simp;first | done | rfl));go_simp;refine hK _ ?_;clear hK K)
  refine Qr.walk_nil fun w6 hw6 => ?_
  go_wp2_with fail
  go_ret
  exact ⟨by rw [HS.out];rfl,hw6⟩

theorem s_tile_any (a b c d e f wd:Nat) (nx ny X Y n h:Int) (cb c0 tb:Nat) (w:World) (hc:CamIn a b c d e f wd nx ny cb c0 w) (hT:Kept [(⟨tb,0,none⟩,.int .i64 X),(⟨tb,1,none⟩,.int .i64 Y),(⟨tb,2,none⟩,.int .i64 n),(⟨tb,3,none⟩,.int .i64 h)] [] w) (hok:camOk (cv a b c) (cv d e f) (cn .f32 wd) nx ny = true) :
  Calls Tryz.prog 110 #[.pointer (some ⟨cb,c0,none⟩),.pointer (some ⟨tb,0,none⟩)] w (fun e' w' => e' = .returned (.bool (tileOk nx ny X Y n h)) ∧ Below w.heap.size w w'):=by
 cases hp:pixOk nx ny X Y
 ·have hv:tileOk nx ny X Y n h = false:=by unfold tileOk;rw [hp];rfl
  rw [hv]
  exact s_tile_no1 a b c d e f wd nx ny X Y n h cb c0 tb w hc hT hok hp
 ·have hv:tileOk nx ny X Y n h = (inI n 1 (nx - X) && inI h 1 (ny - Y)):=by unfold tileOk;rw [hp];rfl
  rw [hv]
  exact s_tile_go _ _ a b c d e f wd nx ny X Y n h cb c0 tb w hc hT hok hp rfl rfl
end Go.Proofs.YtbiacfkiakddiaaGreat

namespace Go.Proofs.YtbiacfkiakddiaaGreat
open Go.RowKit Go.Fl
set_option maxRecDepth 100000 in
set_option maxHeartbeats 4000000 in
theorem s_rtile_any (ns:List PN) (hnum:∀ n ∈ ns,n.nums.length < 10000000) (nb no cap a b c d e f wd:Nat) (nx ny:Int) (lx ly lz near most:Nat) (n:Int) (bp:Option Addr) (w:World) (hbp:ns ≠ [] → bp = some ⟨nb,no,none⟩) (hsh:∀ i (h:i < ns.length),NodeIn ns[i] nb (no + i * 4) w) (hlen:ns.length < 10000000) (hvok:validS ns = true → OkAll ns) (X Y p q:Int) :
  Calls Tryz.prog 53 #[ViewV bp ns.length cap a b c d e f wd nx ny lx ly lz near most n,TilV X Y p q] w (RetPic (viewOk (validS ns) (cv a b c) (cv d e f) (cn .f32 wd) nx ny (cv lx ly lz) (cn .f32 near) (cn .f32 most) n && tileOk nx ny X Y p q) (picB (fun x y => shadeF (atS ns) capS (fun F T mo => marchGs (atS ns) F T (slopeF ns) (cn .f32 near) mo n.toNat 1 0) (cv a b c) (wayP (cv a b c) (cv d e f) (cn .f32 wd) nx ny x y) (cv lx ly lz) (cn .f32 near) (cn .f32 most)) X Y p.toNat q.toNat) w):=by
 obtain ⟨ok,hOk⟩:∃ ok,Hid (ok = (viewOk (validS ns) (cv a b c) (cv d e f) (cn .f32 wd) nx ny (cv lx ly lz) (cn .f32 near) (cn .f32 most) n && tileOk nx ny X Y p q)):=⟨_,rfl⟩
 rw [← hOk.out]
 obtain ⟨L,hL⟩:∃ L,Hid (picB (fun x y => shadeF (atS ns) capS (fun F T mo => marchGs (atS ns) F T (slopeF ns) (cn .f32 near) mo n.toNat 1 0) (cv a b c) (wayP (cv a b c) (cv d e f) (cn .f32 wd) nx ny x y) (cv lx ly lz) (cn .f32 near) (cn .f32 most)) X Y p.toNat q.toNat = L):=⟨_,rfl⟩
 rw [hL.out]
 go_enter Tryz.func53,Tryz.ntmps53
 go_upto_region 1 with fail
 generalize hW:(w.alloc (.cells #[.slice bp ns.length cap,F1 a,F1 b,F1 c,F1 d,F1 e,F1 f,F1 wd,.int .i64 nx,.int .i64 ny,F1 lx,F1 ly,F1 lz,F1 near,F1 most,.int .i64 n] 86)).alloc (.cells #[.int .i64 X,.int .i64 Y,.int .i64 p,.int .i64 q] 99) = W1 at *
 have W1b:Below w.heap.size w W1:=by subst hW;exact (by repeat' (first | exact Below.refl _ _ | exact Nat.le_refl _ | refine below_drewN ?_ _ | refine Below.alloc ?_ (by simp <;> omega) _ | refine Below.setCell ?_ (by simp <;> omega) _ | refine below_step ?_ (by assumption)))
 have hkept:Kept [(⟨w.heap.size,0,none⟩,.slice bp ns.length cap),(⟨w.heap.size,1,none⟩,F1 a),(⟨w.heap.size,2,none⟩,F1 b),(⟨w.heap.size,3,none⟩,F1 c),(⟨w.heap.size,4,none⟩,F1 d),(⟨w.heap.size,5,none⟩,F1 e),(⟨w.heap.size,6,none⟩,F1 f),(⟨w.heap.size,7,none⟩,F1 wd),(⟨w.heap.size,8,none⟩,.int .i64 nx),(⟨w.heap.size,9,none⟩,.int .i64 ny),(⟨w.heap.size,10,none⟩,F1 lx),(⟨w.heap.size,11,none⟩,F1 ly),(⟨w.heap.size,12,none⟩,F1 lz),(⟨w.heap.size,13,none⟩,F1 near),(⟨w.heap.size,14,none⟩,F1 most),(⟨w.heap.size,15,none⟩,.int .i64 n),(⟨w.heap.size + 1,0,none⟩,.int .i64 X),(⟨w.heap.size + 1,1,none⟩,.int .i64 Y),(⟨w.heap.size + 1,2,none⟩,.int .i64 p),(⟨w.heap.size + 1,3,none⟩,.int .i64 q)] [] W1:=by
  subst hW;simp only [Kept,ka,kb,kc,kd,ke,kfa,kga];(first | (go_simp;done) | (simp [World.cell?,World.frozen?,World.alloc,Array.getElem?_push];done))
 clear hW
 have hK:=hkept;simp only [Kept,ka,kb,kc,kd,ke,kfa,kga] at hK
 have hvv:Calls Tryz.prog 98 #[.pointer (some ⟨w.heap.size,0,none⟩)] W1 (fun e' w'' => e' = .returned (.bool (viewOk (validS ns) (cv a b c) (cv d e f) (cn .f32 wd) nx ny (cv lx ly lz) (cn .f32 near) (cn .f32 most) n)) ∧ Below W1.heap.size W1 w''):=s_scene_any w.heap.size ns hnum nb no cap a b c d e f wd nx ny lx ly lz near most n bp W1 hbp (fun i h => (hsh i h).keep W1b) hlen (by have hK2:=hkept;simp only [Kept,ka,kb,kc,kd,ke,kfa,kga] at hK2;simp only [Kept,ka,kb,kc,kd,ke,kfa,kga];simp [hK2])
 have hT:∀ w',Kept [(⟨w.heap.size,0,none⟩,.slice bp ns.length cap)] [] w' → True:=fun _ _ => trivial
 clear hT
 have hTil:=fun w' (hb:Below W1.heap.size W1 w') => (show Kept [(⟨w.heap.size + 1,0,none⟩,.int .i64 X),(⟨w.heap.size + 1,1,none⟩,.int .i64 Y),(⟨w.heap.size + 1,2,none⟩,.int .i64 p),(⟨w.heap.size + 1,3,none⟩,.int .i64 q)] [] w' by have hK2:=keep hkept hb;simp only [Kept,ka,kb,kc,kd,ke,kfa,kga] at hK2;simp only [Kept,ka,kb,kc,kd,ke,kfa,kga];simp [hK2])
 cases hval:viewOk (validS ns) (cv a b c) (cv d e f) (cn .f32 wd) nx ny (cv lx ly lz) (cn .f32 near) (cn .f32 most) n
 ·have hno:ok = false:=by rw [hOk.out,hval];rfl
  rw [hval] at hvv
  clear hOk hsh hbp hnum hL hTil
  subst hno
  go_wp2_with (go_at_call 98;refine hvv.mono ?_;rintro _ w4 ⟨rfl,hb1⟩;have W1b:=below_step W1b hb1)
  exact bodyPost_ret (v:=.tuple #[.string ⟨#[]⟩,.bool false]) (by simp [results,Tryz.results53,go_sem];first | done | (rfl;done) | (repeat' constructor)) rfl ⟨rfl,W1b⟩
 obtain ⟨hvf,hcam,hmar⟩:=view_parts hval
 rw [hval] at hvv
 obtain ⟨m,rfl⟩:=Int.eq_ofNat_of_zero_le (show 0 ≤ n by have:=mar_steps hmar;omega)
 have hm64:m ≤ 64:=by have:=mar_steps hmar;omega
 have hokk:=hvok hvf
 have hl:1 ≤ ns.length ∧ ns.length ≤ 16:=by
  have hvs:=hvf
  simp only [validS,Bool.and_eq_true,decide_eq_true_eq] at hvs
  exact hvs.1
 have hb:=hbp (by intro h;rw [h] at hl;simp at hl)
 subst hb
 have hV:∀ w',Below w.heap.size w w' → Kept [(⟨w.heap.size,0,none⟩,.slice (some ⟨nb,no,none⟩) ns.length cap),(⟨w.heap.size,1,none⟩,F1 a),(⟨w.heap.size,2,none⟩,F1 b),(⟨w.heap.size,3,none⟩,F1 c),(⟨w.heap.size,4,none⟩,F1 d),(⟨w.heap.size,5,none⟩,F1 e),(⟨w.heap.size,6,none⟩,F1 f),(⟨w.heap.size,7,none⟩,F1 wd),(⟨w.heap.size,8,none⟩,.int .i64 nx),(⟨w.heap.size,9,none⟩,.int .i64 ny),(⟨w.heap.size,10,none⟩,F1 lx),(⟨w.heap.size,11,none⟩,F1 ly),(⟨w.heap.size,12,none⟩,F1 lz),(⟨w.heap.size,13,none⟩,F1 near),(⟨w.heap.size,14,none⟩,F1 most),(⟨w.heap.size,15,none⟩,.int .i64 (m:Int))] [] w' → ViewIn ns w.heap.size nb no cap a b c d e f wd nx ny lx ly lz near most m w':=fun w' hb hk => ⟨hk,fun i h => (hsh i h).keep hb⟩
 have hV0:=fun w' (hb:Below W1.heap.size W1 w') => hV w' (below_step W1b hb) (by have hK2:=keep hkept hb;simp only [Kept,ka,kb,kc,kd,ke,kfa,kga] at hK2;simp only [Kept,ka,kb,kc,kd,ke,kfa,kga];simp [hK2])
 have hsh2:=Lib.hid hsh
 clear hsh hbp
 have htil:∀ w',Below W1.heap.size W1 w' → Calls Tryz.prog 110 #[.pointer (some ⟨w.heap.size,1,none⟩),.pointer (some ⟨w.heap.size + 1,0,none⟩)] w' (fun e' w'' => e' = .returned (.bool (tileOk nx ny X Y p q)) ∧ Below w'.heap.size w' w''):=fun w' h => s_tile_any a b c d e f wd nx ny X Y p q w.heap.size 1 (w.heap.size + 1) w' (hV0 w' h).cam (hTil w' h) hcam
 have hrest:tileOk nx ny X Y p q = ok:=by rw [hOk.out,hval];rfl
 rw [hrest] at htil
 have R1:=Below.refl W1.heap.size W1
 cases ok
 ·clear hOk hval hrest hV hV0 hTil hL hnum
  go_wp2_with (first
   | (go_at_call 98;refine hvv.mono ?_;rintro _ w4 ⟨rfl,hb1⟩;have R1:=below_step R1 hb1;have hkept:=keepT hkept hb1 rfl;clear hK;have hK:=hkept;simp only [Kept,ka,kb,kc,kd,ke,kfa,kga] at hK)
   | (go_at_call 110;refine (htil _ R1).mono ?_;rintro _ w5 ⟨rfl,hb1⟩;have R1:=below_step R1 hb1;have hkept:=keepT hkept hb1 rfl;clear hK;have hK:=hkept;simp only [Kept,ka,kb,kc,kd,ke,kfa,kga] at hK))
  exact bodyPost_ret (v:=.tuple #[.string ⟨#[]⟩,.bool false]) (by simp [results,Tryz.results53,go_sem];first | done | (rfl;done) | (repeat' constructor)) rfl ⟨rfl,below_step W1b R1⟩
 ·obtain ⟨u,v,rfl,rfl,hX,hY,hu1,hu,hv1,hv⟩:=tile_parts (cam_sizes hcam) hrest
  have hL2:=hL.out
  simp only [Int.toNat_natCast] at hL2
  have hren:∀ w',Below W1.heap.size W1 w' → Calls Tryz.prog 109 #[.pointer (some ⟨w.heap.size,0,none⟩),.pointer (some ⟨w.heap.size + 1,0,none⟩)] w' (fun e w'' => e = .returned (.string ⟨L.toArray⟩) ∧ Below w'.heap.size w' w''):=fun w' h => by rw [← hL2];exact s_part_any w.heap.size (w.heap.size + 1) 0 _ X Y u v hX hY hu1 hu hv1 hv w' (hTil w' h) (fun x y w'' hb => s_shade_any ns hvf hokk hnum w.heap.size nb no cap a b c d e f wd nx ny lx ly lz near most m hm64 x y w'' ((hV0 w' h).keep hb))
  clear hnum hOk hval hrest hL hL2 hV hV0 hTil
  go_wp2_with (first
   | (go_at_call 98;refine hvv.mono ?_;rintro _ w4 ⟨rfl,hb1⟩;have R1:=below_step R1 hb1;have hkept:=keepT hkept hb1 rfl;clear hK;have hK:=hkept;simp only [Kept,ka,kb,kc,kd,ke,kfa,kga] at hK)
   | (go_at_call 110;refine (htil _ R1).mono ?_;rintro _ w5 ⟨rfl,hb1⟩;have R1:=below_step R1 hb1;have hkept:=keepT hkept hb1 rfl;clear hK;have hK:=hkept;simp only [Kept,ka,kb,kc,kd,ke,kfa,kga] at hK)
   | (go_at_call 109;refine (hren _ R1).mono ?_;rintro _ w6 ⟨rfl,hb1⟩;have R1:=below_step R1 hb1))
  exact bodyPost_ret (v:=.tuple #[.string ⟨L.toArray⟩,.bool true]) (by simp [results,Tryz.results53,go_sem];first | done | (rfl;done) | (repeat' constructor)) rfl ⟨rfl,below_step W1b R1⟩
end Go.Proofs.YtbiacfkiakddiaaGreat

namespace Go.Proofs.YtbiacfkiakddiaaGreat
open Go.RowKit Go.Fl
set_option maxRecDepth 100000 in
set_option maxHeartbeats 1000000 in
theorem to_tile (X Y p q:Int) (w:World) :
  Calls Tryz.prog 54 #[TilV X Y p q] w (fun e w' => e = .returned (TilV X Y p q) ∧ Below w.heap.size w w'):=by
 go_enter Tryz.func54,Tryz.ntmps54
 go_wp2_with fail
 exact bodyPost_ret (v:=TilV X Y p q) (by simp [results,Tryz.results54,go_sem];first | done | (repeat' constructor)) rfl ⟨rfl,(by repeat' (first | exact Below.refl _ _ | exact Nat.le_refl _ | refine below_drewN ?_ _ | refine Below.alloc ?_ (by simp <;> omega) _ | refine Below.setCell ?_ (by simp <;> omega) _ | refine below_step ?_ (by assumption)))⟩

end Go.Proofs.YtbiacfkiakddiaaGreat
