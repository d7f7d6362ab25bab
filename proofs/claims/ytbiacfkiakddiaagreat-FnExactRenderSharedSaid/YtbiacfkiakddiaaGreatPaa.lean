/-
 Lemmas: D31,D29,D30.
-/
import Derived.Test.YtbiacfkiakddiaaGreatOci
import Derived.Below
import Derived.BigRegion
import Derived.ChangeAlike
import Derived.Deep.AppendLies
import Derived.Deep.Cut
import Derived.Deep.CutRange
import Derived.Deep.DeepCutAuto
import Derived.Deep.Draws
import Derived.Deep.Onto
import Derived.Deep.RegionHeld
import Derived.KernelRfl
import Derived.Laws.FloatArith
import Derived.Laws.FloatBits
import Derived.Laws.IdiomStrings
import Derived.Laws.MakeOwn
import Derived.Lib.Hide
import Derived.Outline
import Derived.OwnWalk
import Derived.RegionTactic
import Derived.StillTail
import Derived.Test.YtbiacfkiakddiaaGreatChecked
import Derived.WalkKit
import Derived.WalkLawsBesides
import Ieee.Arith
set_option linter.unusedVariables false
set_option linter.unusedSimpArgs false
namespace Go.Proofs.YtbiacfkiakddiaaGreat
open Go.RowKit Go.Fl
/-- A size of tiles and a number of workers. -/
def shOk (s k:Int):Bool:=(decide (1 ≤ s) && decide (s ≤ 12)) && (decide (1 ≤ k) && decide (k ≤ 8))

end Go.Proofs.YtbiacfkiakddiaaGreat

namespace Go.Proofs.YtbiacfkiakddiaaGreat
open Go.RowKit Go.Fl
set_option maxRecDepth 100000 in
set_option maxHeartbeats 4000000 in
theorem s_rshared_any (ns:List PN) (hnum:∀ n ∈ ns,n.nums.length < 10000000) (nb no cap a b c d e f wd:Nat) (nx ny:Int) (lx ly lz near most:Nat) (n:Int) (bp:Option Addr) (w:World) (hbp:ns ≠ [] → bp = some ⟨nb,no,none⟩) (hsh:∀ i (h:i < ns.length),NodeIn ns[i] nb (no + i * 4) w) (hlen:ns.length < 10000000) (hvok:validS ns = true → OkAll ns) (size wk:Int) :
  Calls Tryz.prog 51 #[ViewV bp ns.length cap a b c d e f wd nx ny lx ly lz near most n,.int .i64 size,.int .i64 wk] w (RetPic (viewOk (validS ns) (cv a b c) (cv d e f) (cn .f32 wd) nx ny (cv lx ly lz) (cn .f32 near) (cn .f32 most) n && (tileOk nx ny 0 0 nx ny && shOk size wk)) (picB (fun x y => shadeF (atS ns) capS (fun F T mo => marchGs (atS ns) F T (slopeF ns) (cn .f32 near) mo n.toNat 1 0) (cv a b c) (wayP (cv a b c) (cv d e f) (cn .f32 wd) nx ny x y) (cv lx ly lz) (cn .f32 near) (cn .f32 most)) 0 0 nx.toNat ny.toNat) w):=by
 obtain ⟨ok,hOk⟩:∃ ok,Hid (ok = (viewOk (validS ns) (cv a b c) (cv d e f) (cn .f32 wd) nx ny (cv lx ly lz) (cn .f32 near) (cn .f32 most) n && (tileOk nx ny 0 0 nx ny && shOk size wk))):=⟨_,rfl⟩
 rw [← hOk.out]
 obtain ⟨L,hL⟩:∃ L,Hid (picB (fun x y => shadeF (atS ns) capS (fun F T mo => marchGs (atS ns) F T (slopeF ns) (cn .f32 near) mo n.toNat 1 0) (cv a b c) (wayP (cv a b c) (cv d e f) (cn .f32 wd) nx ny x y) (cv lx ly lz) (cn .f32 near) (cn .f32 most)) 0 0 nx.toNat ny.toNat = L):=⟨_,rfl⟩
 rw [hL.out]
 go_enter Tryz.func51,Tryz.ntmps51
 go_upto_region 1 with fail
 generalize hW:w.alloc (.cells #[.slice bp ns.length cap,F1 a,F1 b,F1 c,F1 d,F1 e,F1 f,F1 wd,.int .i64 nx,.int .i64 ny,F1 lx,F1 ly,F1 lz,F1 near,F1 most,.int .i64 n] 86) = W1 at *
 have W1b:Below w.heap.size w W1:=by subst hW;exact (by repeat' (first | exact Below.refl _ _ | exact Nat.le_refl _ | refine below_drewN ?_ _ | refine Below.alloc ?_ (by simp <;> omega) _ | refine Below.setCell ?_ (by simp <;> omega) _ | refine below_step ?_ (by assumption)))
 have hkept:Kept [(⟨w.heap.size,0,none⟩,.slice bp ns.length cap),(⟨w.heap.size,1,none⟩,F1 a),(⟨w.heap.size,2,none⟩,F1 b),(⟨w.heap.size,3,none⟩,F1 c),(⟨w.heap.size,4,none⟩,F1 d),(⟨w.heap.size,5,none⟩,F1 e),(⟨w.heap.size,6,none⟩,F1 f),(⟨w.heap.size,7,none⟩,F1 wd),(⟨w.heap.size,8,none⟩,.int .i64 nx),(⟨w.heap.size,9,none⟩,.int .i64 ny),(⟨w.heap.size,10,none⟩,F1 lx),(⟨w.heap.size,11,none⟩,F1 ly),(⟨w.heap.size,12,none⟩,F1 lz),(⟨w.heap.size,13,none⟩,F1 near),(⟨w.heap.size,14,none⟩,F1 most),(⟨w.heap.size,15,none⟩,.int .i64 n)] [] W1:=by
  subst hW;simp only [Kept,ka,kb,kc,kd,ke,kfa,kga];(first | (go_simp;done) | (simp [World.cell?,World.frozen?,World.alloc,Array.getElem?_push];done))
 clear hW
 have hK:=hkept;simp only [Kept,ka,kb,kc,kd,ke,kfa,kga] at hK
 have hvv:Calls Tryz.prog 98 #[.pointer (some ⟨w.heap.size,0,none⟩)] W1 (fun e' w'' => e' = .returned (.bool (viewOk (validS ns) (cv a b c) (cv d e f) (cn .f32 wd) nx ny (cv lx ly lz) (cn .f32 near) (cn .f32 most) n)) ∧ Below W1.heap.size W1 w''):=s_scene_any w.heap.size ns hnum nb no cap a b c d e f wd nx ny lx ly lz near most n bp W1 hbp (fun i h => (hsh i h).keep W1b) hlen (by have hK2:=hkept;simp only [Kept,ka,kb,kc,kd,ke,kfa,kga] at hK2;simp only [Kept,ka,kb,kc,kd,ke,kfa,kga];simp [hK2])
 have R1:=Below.refl W1.heap.size W1
 have t1:True:=trivial
 cases hval:viewOk (validS ns) (cv a b c) (cv d e f) (cn .f32 wd) nx ny (cv lx ly lz) (cn .f32 near) (cn .f32 most) n
 ·have hno:ok = false:=by rw [hOk.out,hval];rfl
  rw [hval] at hvv
  clear hOk hsh hbp hnum hL
  subst hno
  go_wp2_with (go_at_call 98;refine hvv.mono ?_;rintro _ w4 ⟨rfl,hb1⟩;have R1:=below_step R1 hb1;have hkept:=keepT hkept hb1 rfl;clear hK;have hK:=hkept;simp only [Kept,ka,kb,kc,kd,ke,kfa,kga] at hK)
  exact bodyPost_ret (v:=.tuple #[.string ⟨#[]⟩,.bool false]) (by simp [results,Tryz.results51,go_sem];first | done | (rfl;done) | (repeat' constructor)) rfl ⟨rfl,below_step W1b R1⟩
 obtain ⟨hvf,hcam,hmar⟩:=view_parts hval
 rw [hval] at hvv
 obtain ⟨p1,h1⟩:∃ p,(decide (1 ≤ size) && decide (size ≤ 12)) = p:=⟨_,rfl⟩
 obtain ⟨p2,h2⟩:∃ p,(decide (1 ≤ wk) && decide (wk ≤ 8)) = p:=⟨_,rfl⟩
 have hOk2:=hOk.out
 rw [hval] at hOk2
 unfold shOk at hOk2
 rw [h1,h2] at hOk2
 clear hOk
 cases p1
 ·have hno:ok = false:=by rw [hOk2];simp
  clear hOk2 hsh hbp hnum hL hval
  subst hno
  go_wp2_with (first
   | (go_at_call 98;refine hvv.mono ?_;rintro _ w4 ⟨rfl,hb1⟩;have R1:=below_step R1 hb1;have hkept:=keepT hkept hb1 rfl;clear hK;have hK:=hkept;simp only [Kept,ka,kb,kc,kd,ke,kfa,kga] at hK)
   | (clear t1;go_at_call 71;refine (s_in_any _ _ _ _).mono ?_;rintro _ wi ⟨rfl,rfl⟩;rw [h1]))
  exact bodyPost_ret (v:=.tuple #[.string ⟨#[]⟩,.bool false]) (by simp [results,Tryz.results51,go_sem];first | done | (rfl;done) | (repeat' constructor)) rfl ⟨rfl,below_step W1b R1⟩
 cases p2
 ·have hno:ok = false:=by rw [hOk2];simp
  clear hOk2 hsh hbp hnum hL hval
  subst hno
  go_wp2_with (first
   | (go_at_call 98;refine hvv.mono ?_;rintro _ w4 ⟨rfl,hb1⟩;have R1:=below_step R1 hb1;have hkept:=keepT hkept hb1 rfl;clear hK;have hK:=hkept;simp only [Kept,ka,kb,kc,kd,ke,kfa,kga] at hK)
   | (clear t1;go_at_call 71;refine (s_in_any _ _ _ _).mono ?_;rintro _ wi ⟨rfl,rfl⟩;rw [h1])
   | (go_at_call 71;refine (s_in_any _ _ _ _).mono ?_;rintro _ wi ⟨rfl,rfl⟩;rw [h2]))
  exact bodyPost_ret (v:=.tuple #[.string ⟨#[]⟩,.bool false]) (by simp [results,Tryz.results51,go_sem];first | done | (rfl;done) | (repeat' constructor)) rfl ⟨rfl,below_step W1b R1⟩
 obtain ⟨m,rfl⟩:=Int.eq_ofNat_of_zero_le (show 0 ≤ n by have:=mar_steps hmar;omega)
 have hm64:m ≤ 64:=by have:=mar_steps hmar;omega
 have hokk:=hvok hvf
 have hl:1 ≤ ns.length ∧ ns.length ≤ 16:=by
  have hvs:=hvf
  simp only [validS,Bool.and_eq_true,decide_eq_true_eq] at hvs
  exact hvs.1
 have hb:=hbp (by intro h;rw [h] at hl;simp at hl)
 subst hb
 have hrest:=whole_ok hcam
 have hyes:ok = true:=by rw [hOk2,hrest];rfl
 subst hyes
 have hV0:∀ w',Below W1.heap.size W1 w' → ViewIn ns w.heap.size nb no cap a b c d e f wd nx ny lx ly lz near most m w':=fun w' hb => ⟨by have hK2:=keep hkept hb;simp only [Kept,ka,kb,kc,kd,ke,kfa,kga] at hK2;simp only [Kept,ka,kb,kc,kd,ke,kfa,kga];simp [hK2],fun i h => (hsh i h).keep (below_step W1b hb)⟩
 have hsh2:=Lib.hid hsh
 clear hsh hbp
 obtain ⟨u,v,rfl,rfl,hX,hY,hu1,hu,hv1,hv⟩:=tile_parts (cam_sizes hcam) hrest
 have hL2:=hL.out
 simp only [Int.toNat_natCast] at hL2
 have hren:∀ tb w',Below W1.heap.size W1 w' → Kept [(⟨tb,0,none⟩,.int .i64 0),(⟨tb,0 + 1,none⟩,.int .i64 0),(⟨tb,0 + 2,none⟩,.int .i64 (u:Int)),(⟨tb,0 + 3,none⟩,.int .i64 (v:Int))] [] w' → Calls Tryz.prog 109 #[.pointer (some ⟨w.heap.size,0,none⟩),.pointer (some ⟨tb,0,none⟩)] w' (fun e w'' => e = .returned (.string ⟨L.toArray⟩) ∧ Below w'.heap.size w' w''):=fun tb w' h hT => by rw [← hL2];exact s_part_any w.heap.size tb 0 _ 0 0 u v hX hY hu1 hu hv1 hv w' hT (fun x y w'' hb => s_shade_any ns hvf hokk hnum w.heap.size nb no cap a b c d e f wd u v lx ly lz near most m hm64 x y w'' ((hV0 w' h).keep hb))
 have hwh:∀ w',Below W1.heap.size W1 w' → Calls Tryz.prog 108 #[.pointer (some ⟨w.heap.size,1,none⟩)] w' (fun e' w'' => e' = .returned (TilV 0 0 u v) ∧ Below w'.heap.size w' w''):=fun w' h => s_whole_any a b c d e f wd u v w.heap.size 1 w' (hV0 w' h).cam
 clear hnum hOk2 hval hrest hL hL2 hV0
 go_upto_region 4 with (first
  | (go_at_call 98;refine hvv.mono ?_;rintro _ w4 ⟨rfl,hb1⟩;have R1:=below_step R1 hb1;have hkept:=keepT hkept hb1 rfl;clear hK;have hK:=hkept;simp only [Kept,ka,kb,kc,kd,ke,kfa,kga] at hK)
  | (clear t1;go_at_call 71;refine (s_in_any _ _ _ _).mono ?_;rintro _ wi ⟨rfl,rfl⟩;rw [h1])
  | (go_at_call 71;refine (s_in_any _ _ _ _).mono ?_;rintro _ wi ⟨rfl,rfl⟩;rw [h2])
  | (go_at_call 108;refine (hwh _ R1).mono ?_;rintro _ w5 ⟨rfl,hb1⟩;have R1:=below_step R1 hb1;have hkept:=keepT hkept hb1 rfl;clear hK;have hK:=hkept;simp only [Kept,ka,kb,kc,kd,ke,kfa,kga] at hK))
 have hb2:Below w5.heap.size w5 (w5.alloc (.cells #[.int .i64 0,.int .i64 0,.int .i64 (u:Int),.int .i64 (v:Int)] 99)):=(Below.refl _ _).alloc (Nat.le_refl _) _
 have hT5:Kept [(⟨w5.heap.size,0,none⟩,.int .i64 0),(⟨w5.heap.size,1,none⟩,.int .i64 0),(⟨w5.heap.size,2,none⟩,.int .i64 (u:Int)),(⟨w5.heap.size,3,none⟩,.int .i64 (v:Int))] [] (w5.alloc (.cells #[.int .i64 0,.int .i64 0,.int .i64 (u:Int),.int .i64 (v:Int)] 99)):=by simp only [Kept,ka,kb,kc,kd,ke,kfa,kga];simp
 have hkept:=kept_app (keep hkept hb2) hT5
 have R1:=below_step R1 hb2
 generalize w5.alloc (.cells #[.int .i64 0,.int .i64 0,.int .i64 (u:Int),.int .i64 (v:Int)] 99) = w6 at *
 generalize w5.heap.size = tb at *
 clear hb2 hK hwh hvv
 have hK:=hkept;simp only [Kept,ka,kb,kc,kd,ke,kfa,kga] at hK
 go_wp2_with (go_at_call 109;refine (hren _ _ R1 hT5).mono ?_;rintro _ w7 ⟨rfl,hb3⟩;have R1:=below_step R1 hb3)
 exact bodyPost_ret (v:=.tuple #[.string ⟨L.toArray⟩,.bool true]) (by simp [results,Tryz.results51,go_sem];first | done | (rfl;done) | (repeat' constructor)) rfl ⟨rfl,below_step W1b R1⟩
end Go.Proofs.YtbiacfkiakddiaaGreat

namespace Go.Proofs.YtbiacfkiakddiaaGreat
open Go.RowKit Go.Fl
set_option maxRecDepth 100000 in
set_option maxHeartbeats 4000000 in
theorem rshared_any (ns:List PN) (hnum:∀ n ∈ ns,n.nums.length < 10000000) (nb no cap a b c d e f wd:Nat) (nx ny:Int) (lx ly lz near most:Nat) (n:Int) (bp:Option Addr) (w:World) (hbp:ns ≠ [] → bp = some ⟨nb,no,none⟩) (hsh:∀ i (h:i < ns.length),NodeIn ns[i] nb (no + i * 4) w) (hlen:ns.length < 10000000) (size wk:Int) :
  Calls Tryz.prog 52 #[ViewV bp ns.length cap a b c d e f wd nx ny lx ly lz near most n,.int .i64 size,.int .i64 wk] w (RetPic (viewOk (validF ns) (cv a b c) (cv d e f) (cn .f32 wd) nx ny (cv lx ly lz) (cn .f32 near) (cn .f32 most) n && (tileOk nx ny 0 0 nx ny && shOk size wk)) (picB (fun x y => shadeF (topF ns) capF (fun F T mo => marchGo (topF ns) F T (slopeF ns) (cn .f32 near) mo n.toNat 1 0) (cv a b c) (wayP (cv a b c) (cv d e f) (cn .f32 wd) nx ny x y) (cv lx ly lz) (cn .f32 near) (cn .f32 most)) 0 0 nx.toNat ny.toNat) w):=by
 have hr:=fun (w':World) (hb:Below w.heap.size w w') => rview_any ns hnum nb no cap a b c d e f wd nx ny lx ly lz near most n bp w' hbp (fun i h => (hsh i h).keep hb) hlen
 generalize viewOk (validF ns) (cv a b c) (cv d e f) (cn .f32 wd) nx ny (cv lx ly lz) (cn .f32 near) (cn .f32 most) n = v1 at *
 generalize tileOk nx ny 0 0 nx ny = v2 at *
 generalize picB (fun x y => shadeF (topF ns) capF (fun F T mo => marchGo (topF ns) F T (slopeF ns) (cn .f32 near) mo n.toNat 1 0) (cv a b c) (wayP (cv a b c) (cv d e f) (cn .f32 wd) nx ny x y) (cv lx ly lz) (cn .f32 near) (cn .f32 most)) 0 0 nx.toNat ny.toNat = L at *
 clear hsh hbp hnum hlen
 unfold shOk
 obtain ⟨p1,h1⟩:∃ p,(decide (1 ≤ size) && decide (size ≤ 12)) = p:=⟨_,rfl⟩
 obtain ⟨p2,h2⟩:∃ p,(decide (1 ≤ wk) && decide (wk ≤ 8)) = p:=⟨_,rfl⟩
 rw [h1,h2]
 have t1:True:=trivial
 cases p1
 ·have hz:(v1 && (v2 && (false && p2))) = false:=by cases v1 <;> cases v2 <;> rfl
  rw [hz]
  unfold RetPic at *
  clear hr
  go_enter Tryz.func52,Tryz.ntmps52
  go_upto_region 1 with fail
  generalize hW:w.alloc (.cells #[.slice bp ns.length cap,F1 a,F1 b,F1 c,F1 d,F1 e,F1 f,F1 wd,.int .i64 nx,.int .i64 ny,F1 lx,F1 ly,F1 lz,F1 near,F1 most,.int .i64 n] 86) = W1 at *
  have W1b:Below w.heap.size w W1:=by subst hW;exact (by repeat' (first | exact Below.refl _ _ | exact Nat.le_refl _ | refine below_drewN ?_ _ | refine Below.alloc ?_ (by simp <;> omega) _ | refine Below.setCell ?_ (by simp <;> omega) _ | refine below_step ?_ (by assumption)))
  have hkept:Kept [(⟨w.heap.size,0,none⟩,.slice bp ns.length cap),(⟨w.heap.size,1,none⟩,F1 a),(⟨w.heap.size,2,none⟩,F1 b),(⟨w.heap.size,3,none⟩,F1 c),(⟨w.heap.size,4,none⟩,F1 d),(⟨w.heap.size,5,none⟩,F1 e),(⟨w.heap.size,6,none⟩,F1 f),(⟨w.heap.size,7,none⟩,F1 wd),(⟨w.heap.size,8,none⟩,.int .i64 nx),(⟨w.heap.size,9,none⟩,.int .i64 ny),(⟨w.heap.size,10,none⟩,F1 lx),(⟨w.heap.size,11,none⟩,F1 ly),(⟨w.heap.size,12,none⟩,F1 lz),(⟨w.heap.size,13,none⟩,F1 near),(⟨w.heap.size,14,none⟩,F1 most),(⟨w.heap.size,15,none⟩,.int .i64 n)] [] W1:=by
   subst hW;simp only [Kept,ka,kb,kc,kd,ke,kfa,kga];(first | (go_simp;done) | (simp [World.cell?,World.frozen?,World.alloc,Array.getElem?_push];done))
  clear hW
  have hK:=hkept;simp only [Kept,ka,kb,kc,kd,ke,kfa,kga] at hK
  go_wp2_with (go_at_call 74;refine (in_any _ _ _ _).mono ?_;rintro _ w5 ⟨rfl,rfl⟩;rw [h1])
  exact bodyPost_ret (v:=.tuple #[.string ⟨#[]⟩,.bool false]) (by simp [results,Tryz.results52,go_sem];first | done | (rfl;done) | (repeat' constructor)) rfl ⟨rfl,W1b⟩
 cases p2
 ·have hz:(v1 && (v2 && (true && false))) = false:=by cases v1 <;> cases v2 <;> rfl
  rw [hz]
  unfold RetPic at *
  clear hr
  go_enter Tryz.func52,Tryz.ntmps52
  go_upto_region 1 with fail
  generalize hW:w.alloc (.cells #[.slice bp ns.length cap,F1 a,F1 b,F1 c,F1 d,F1 e,F1 f,F1 wd,.int .i64 nx,.int .i64 ny,F1 lx,F1 ly,F1 lz,F1 near,F1 most,.int .i64 n] 86) = W1 at *
  have W1b:Below w.heap.size w W1:=by subst hW;exact (by repeat' (first | exact Below.refl _ _ | exact Nat.le_refl _ | refine below_drewN ?_ _ | refine Below.alloc ?_ (by simp <;> omega) _ | refine Below.setCell ?_ (by simp <;> omega) _ | refine below_step ?_ (by assumption)))
  have hkept:Kept [(⟨w.heap.size,0,none⟩,.slice bp ns.length cap),(⟨w.heap.size,1,none⟩,F1 a),(⟨w.heap.size,2,none⟩,F1 b),(⟨w.heap.size,3,none⟩,F1 c),(⟨w.heap.size,4,none⟩,F1 d),(⟨w.heap.size,5,none⟩,F1 e),(⟨w.heap.size,6,none⟩,F1 f),(⟨w.heap.size,7,none⟩,F1 wd),(⟨w.heap.size,8,none⟩,.int .i64 nx),(⟨w.heap.size,9,none⟩,.int .i64 ny),(⟨w.heap.size,10,none⟩,F1 lx),(⟨w.heap.size,11,none⟩,F1 ly),(⟨w.heap.size,12,none⟩,F1 lz),(⟨w.heap.size,13,none⟩,F1 near),(⟨w.heap.size,14,none⟩,F1 most),(⟨w.heap.size,15,none⟩,.int .i64 n)] [] W1:=by
   subst hW;simp only [Kept,ka,kb,kc,kd,ke,kfa,kga];(first | (go_simp;done) | (simp [World.cell?,World.frozen?,World.alloc,Array.getElem?_push];done))
  clear hW
  have hK:=hkept;simp only [Kept,ka,kb,kc,kd,ke,kfa,kga] at hK
  go_wp2_with (first
   | (clear t1;go_at_call 74;refine (in_any _ _ _ _).mono ?_;rintro _ w5 ⟨rfl,rfl⟩;rw [h1])
   | (go_at_call 74;refine (in_any _ _ _ _).mono ?_;rintro _ w5 ⟨rfl,rfl⟩;rw [h2]))
  exact bodyPost_ret (v:=.tuple #[.string ⟨#[]⟩,.bool false]) (by simp [results,Tryz.results52,go_sem];first | done | (rfl;done) | (repeat' constructor)) rfl ⟨rfl,W1b⟩
 rw [show (v1 && (v2 && (true && true))) = (v1 && v2) by cases v1 <;> cases v2 <;> rfl]
 generalize (v1 && v2) = ok at *
 unfold RetPic at *
 generalize (if ok = true then L else []) = L2 at *
 go_enter Tryz.func52,Tryz.ntmps52
 go_upto_region 1 with fail
 generalize hW:w.alloc (.cells #[.slice bp ns.length cap,F1 a,F1 b,F1 c,F1 d,F1 e,F1 f,F1 wd,.int .i64 nx,.int .i64 ny,F1 lx,F1 ly,F1 lz,F1 near,F1 most,.int .i64 n] 86) = W1 at *
 have W1b:Below w.heap.size w W1:=by subst hW;exact (by repeat' (first | exact Below.refl _ _ | exact Nat.le_refl _ | refine below_drewN ?_ _ | refine Below.alloc ?_ (by simp <;> omega) _ | refine Below.setCell ?_ (by simp <;> omega) _ | refine below_step ?_ (by assumption)))
 have hkept:Kept [(⟨w.heap.size,0,none⟩,.slice bp ns.length cap),(⟨w.heap.size,1,none⟩,F1 a),(⟨w.heap.size,2,none⟩,F1 b),(⟨w.heap.size,3,none⟩,F1 c),(⟨w.heap.size,4,none⟩,F1 d),(⟨w.heap.size,5,none⟩,F1 e),(⟨w.heap.size,6,none⟩,F1 f),(⟨w.heap.size,7,none⟩,F1 wd),(⟨w.heap.size,8,none⟩,.int .i64 nx),(⟨w.heap.size,9,none⟩,.int .i64 ny),(⟨w.heap.size,10,none⟩,F1 lx),(⟨w.heap.size,11,none⟩,F1 ly),(⟨w.heap.size,12,none⟩,F1 lz),(⟨w.heap.size,13,none⟩,F1 near),(⟨w.heap.size,14,none⟩,F1 most),(⟨w.heap.size,15,none⟩,.int .i64 n)] [] W1:=by
  subst hW;simp only [Kept,ka,kb,kc,kd,ke,kfa,kga];(first | (go_simp;done) | (simp [World.cell?,World.frozen?,World.alloc,Array.getElem?_push];done))
 clear hW
 have hK:=hkept;simp only [Kept,ka,kb,kc,kd,ke,kfa,kga] at hK
 go_wp2_with (first
  | (clear t1;go_at_call 74;refine (in_any _ _ _ _).mono ?_;rintro _ w5 ⟨rfl,rfl⟩;rw [h1])
  | (go_at_call 74;refine (in_any _ _ _ _).mono ?_;rintro _ w5 ⟨rfl,rfl⟩;rw [h2])
  | (go_at_call 50;refine (hr _ W1b).mono ?_;rintro _ w4 ⟨rfl,hb1⟩;have W1b:=below_step W1b hb1))
 exact bodyPost_ret (v:=.tuple #[.string ⟨L2.toArray⟩,.bool ok]) (by simp [results,Tryz.results52,go_sem];first | done | (rfl;done) | (repeat' constructor)) rfl ⟨rfl,W1b⟩
end Go.Proofs.YtbiacfkiakddiaaGreat
