/-
 Lemmas: D27,D28,D29,D31.
-/
import Derived.Test.YtbiacfkiakddiaaGreatOcf
set_option linter.unusedVariables false
set_option linter.unusedSimpArgs false
namespace Go.Proofs.YtbiacfkiakddiaaGreat
open Go.RowKit Go.Fl
set_option maxRecDepth 100000 in
set_option maxHeartbeats 4000000 in
theorem rview_any (ns:List PN) (hnum:∀ n ∈ ns,n.nums.length < 10000000) (nb no cap a b c d e f wd:Nat) (nx ny:Int) (lx ly lz near most:Nat) (n:Int) (bp:Option Addr) (w:World) (hbp:ns ≠ [] → bp = some ⟨nb,no,none⟩) (hsh:∀ i (h:i < ns.length),NodeIn ns[i] nb (no + i * 4) w) (hlen:ns.length < 10000000) :
  Calls Tryz.prog 50 #[ViewV bp ns.length cap a b c d e f wd nx ny lx ly lz near most n] w (RetPic (viewOk (validF ns) (cv a b c) (cv d e f) (cn .f32 wd) nx ny (cv lx ly lz) (cn .f32 near) (cn .f32 most) n && tileOk nx ny 0 0 nx ny) (picB (fun x y => shadeF (topF ns) capF (fun F T mo => marchGo (topF ns) F T (slopeF ns) (cn .f32 near) mo n.toNat 1 0) (cv a b c) (wayP (cv a b c) (cv d e f) (cn .f32 wd) nx ny x y) (cv lx ly lz) (cn .f32 near) (cn .f32 most)) 0 0 nx.toNat ny.toNat) w):=by
 have hr:∀ w',Below w.heap.size w w' → Calls Tryz.prog 55 #[ViewV bp ns.length cap a b c d e f wd nx ny lx ly lz near most n,TilV 0 0 nx ny] w' (RetPic (viewOk (validF ns) (cv a b c) (cv d e f) (cn .f32 wd) nx ny (cv lx ly lz) (cn .f32 near) (cn .f32 most) n && tileOk nx ny 0 0 nx ny) (picB (fun x y => shadeF (topF ns) capF (fun F T mo => marchGo (topF ns) F T (slopeF ns) (cn .f32 near) mo n.toNat 1 0) (cv a b c) (wayP (cv a b c) (cv d e f) (cn .f32 wd) nx ny x y) (cv lx ly lz) (cn .f32 near) (cn .f32 most)) 0 0 nx.toNat ny.toNat) w'):=fun w' hb => rtile_any ns hnum nb no cap a b c d e f wd nx ny lx ly lz near most n bp w' hbp (fun i h => (hsh i h).keep hb) hlen 0 0 nx ny
 generalize (viewOk (validF ns) (cv a b c) (cv d e f) (cn .f32 wd) nx ny (cv lx ly lz) (cn .f32 near) (cn .f32 most) n && tileOk nx ny 0 0 nx ny) = ok at *
 generalize picB (fun x y => shadeF (topF ns) capF (fun F T mo => marchGo (topF ns) F T (slopeF ns) (cn .f32 near) mo n.toNat 1 0) (cv a b c) (wayP (cv a b c) (cv d e f) (cn .f32 wd) nx ny x y) (cv lx ly lz) (cn .f32 near) (cn .f32 most)) 0 0 nx.toNat ny.toNat = L at *
 clear hsh hbp hnum
 unfold RetPic at *
 generalize (if ok = true then L else []) = L2 at *
 go_enter Tryz.func50,Tryz.ntmps50
 go_upto_region 1 with fail
 generalize hW:w.alloc (.cells #[.slice bp ns.length cap,F1 a,F1 b,F1 c,F1 d,F1 e,F1 f,F1 wd,.int .i64 nx,.int .i64 ny,F1 lx,F1 ly,F1 lz,F1 near,F1 most,.int .i64 n] 86) = W1 at *
 have W1b:Below w.heap.size w W1:=by subst hW;exact (by repeat' (first | exact Below.refl _ _ | exact Nat.le_refl _ | refine below_drewN ?_ _ | refine Below.alloc ?_ (by simp <;> omega) _ | refine Below.setCell ?_ (by simp <;> omega) _ | refine below_step ?_ (by assumption)))
 have hkept:Kept [(⟨w.heap.size,0,none⟩,.slice bp ns.length cap),(⟨w.heap.size,1,none⟩,F1 a),(⟨w.heap.size,2,none⟩,F1 b),(⟨w.heap.size,3,none⟩,F1 c),(⟨w.heap.size,4,none⟩,F1 d),(⟨w.heap.size,5,none⟩,F1 e),(⟨w.heap.size,6,none⟩,F1 f),(⟨w.heap.size,7,none⟩,F1 wd),(⟨w.heap.size,8,none⟩,.int .i64 nx),(⟨w.heap.size,9,none⟩,.int .i64 ny),(⟨w.heap.size,10,none⟩,F1 lx),(⟨w.heap.size,11,none⟩,F1 ly),(⟨w.heap.size,12,none⟩,F1 lz),(⟨w.heap.size,13,none⟩,F1 near),(⟨w.heap.size,14,none⟩,F1 most),(⟨w.heap.size,15,none⟩,.int .i64 n)] [] W1:=by
  subst hW;simp only [Kept,ka,kb,kc,kd,ke,kfa,kga];(first | (go_simp;done) | (simp [World.cell?,World.frozen?,World.alloc,Array.getElem?_push];done))
 clear hW
 have hK:=hkept;simp only [Kept,ka,kb,kc,kd,ke,kfa,kga] at hK
 go_wp2_with (go_at_call 55;refine (hr _ W1b).mono ?_;rintro _ w4 ⟨rfl,hb1⟩;have W1b:=below_step W1b hb1)
 exact bodyPost_ret (v:=.tuple #[.string ⟨L2.toArray⟩,.bool ok]) (by simp [results,Tryz.results50,go_sem];first | done | (rfl;done) | (repeat' constructor)) rfl ⟨rfl,W1b⟩
end Go.Proofs.YtbiacfkiakddiaaGreat

namespace Go.Proofs.YtbiacfkiakddiaaGreat
open Go.RowKit Go.Fl
set_option maxRecDepth 100000 in
set_option maxHeartbeats 1000000 in
theorem s_whole_any (a b c d e f wd:Nat) (nx ny:Int) (cb c0:Nat) (w:World) (hc:CamIn a b c d e f wd nx ny cb c0 w) :
  Calls Tryz.prog 108 #[.pointer (some ⟨cb,c0,none⟩)] w (fun e' w' => e' = .returned (TilV 0 0 nx ny) ∧ Below w.heap.size w w'):=by
 have hkC:=hc.kept
 clear hc
 have hlt:cb < w.heap.size:=some_lt (a:=⟨cb,c0,none⟩) (by have:=hkC;simp only [Kept,List.forall_mem_cons] at this;simp [this])
 go_enter Tryz.func108,Tryz.ntmps108
 go_upto_region 1 with fail
 generalize hW:w.alloc (.cells #[.int .i64 0,.int .i64 0,.int .i64 0,.int .i64 0] 99) = W1 at *
 have W1b:Below w.heap.size w W1:=by subst hW;exact (by repeat' (first | exact Below.refl _ _ | exact Nat.le_refl _ | refine below_drewN ?_ _ | refine Below.alloc ?_ (by simp <;> omega) _ | refine Below.setCell ?_ (by simp <;> omega) _ | refine below_step ?_ (by assumption)))
 have hkept:Kept [(⟨w.heap.size,0,none⟩,.int .i64 0),(⟨w.heap.size,1,none⟩,.int .i64 0),(⟨w.heap.size,2,none⟩,.int .i64 0),(⟨w.heap.size,3,none⟩,.int .i64 0)] [⟨w.heap.size,0,none⟩,⟨w.heap.size,1,none⟩,⟨w.heap.size,2,none⟩,⟨w.heap.size,3,none⟩] W1:=by
  subst hW;simp only [Kept,ka,kb,kc,kd,ke,kfa,kga];(first | (go_simp;done) | (simp [World.cell?,World.frozen?,World.alloc,Array.getElem?_push];done))
 clear hW
 have hbA:=W1b
 have hkept:=kept_app (keep hkC W1b) hkept
 refine Qr.wp_below 9 (by kernel_rfl) (by kernel_rfl) (PhiTl false) ?_
 repeat (refine Qr.walk_plain rfl fun K hK => ?_;apply Qr.one_det;(focus (intro w' hw';have HK:=keep hkept hw';simp only [Kept,ka,kb,kc,kd,ke,kfa,kga] at HK;go_simp;first | done | rfl));go_simp;refine hK _ ?_;clear hK K)
 refine Qr.walk_nil fun w5 hw5 => ?_
 have W5b:=below_step hbA hw5
 have hkept:=keep hkept hw5
 have hK:=hkept;simp only [Kept,ka,kb,kc,kd,ke,kfa,kga] at hK
 go_wp2_with fail
 exact bodyPost_ret (v:=TilV 0 0 nx ny) (by simp [results,Tryz.results108,go_sem,hK,World.cell?_setCell_other,World.cell?_setCell_same']) rfl ⟨rfl,(by repeat' (first | exact Below.refl _ _ | exact Nat.le_refl _ | refine Below.drew ?_ | refine below_drewN ?_ _ | refine Below.alloc ?_ (by simp <;> omega) _ | refine Below.setCell ?_ (by simp <;> omega) _ | refine below_step ?_ (by assumption)))⟩
end Go.Proofs.YtbiacfkiakddiaaGreat

namespace Go.Proofs.YtbiacfkiakddiaaGreat
open Go.RowKit Go.Fl
theorem whole_ok {f t:Nat × Nat × Nat} {wd:Nat} {nx ny:Int} (h:camOk f t wd nx ny = true):tileOk nx ny 0 0 nx ny = true:=by
 obtain ⟨⟨h1,h2⟩,h3,h4⟩:=cam_sizes h
 unfold tileOk pixOk
 simp only [Bool.and_eq_true,decide_eq_true_eq]
 omega

set_option maxRecDepth 100000 in
set_option maxHeartbeats 4000000 in
theorem s_rview_any (ns:List PN) (hnum:∀ n ∈ ns,n.nums.length < 10000000) (nb no cap a b c d e f wd:Nat) (nx ny:Int) (lx ly lz near most:Nat) (n:Int) (bp:Option Addr) (w:World) (hbp:ns ≠ [] → bp = some ⟨nb,no,none⟩) (hsh:∀ i (h:i < ns.length),NodeIn ns[i] nb (no + i * 4) w) (hlen:ns.length < 10000000) (hvok:validS ns = true → OkAll ns) :
  Calls Tryz.prog 49 #[ViewV bp ns.length cap a b c d e f wd nx ny lx ly lz near most n] w (RetPic (viewOk (validS ns) (cv a b c) (cv d e f) (cn .f32 wd) nx ny (cv lx ly lz) (cn .f32 near) (cn .f32 most) n && tileOk nx ny 0 0 nx ny) (picB (fun x y => shadeF (atS ns) capS (fun F T mo => marchGs (atS ns) F T (slopeF ns) (cn .f32 near) mo n.toNat 1 0) (cv a b c) (wayP (cv a b c) (cv d e f) (cn .f32 wd) nx ny x y) (cv lx ly lz) (cn .f32 near) (cn .f32 most)) 0 0 nx.toNat ny.toNat) w):=by
 obtain ⟨ok,hOk⟩:∃ ok,Hid (ok = (viewOk (validS ns) (cv a b c) (cv d e f) (cn .f32 wd) nx ny (cv lx ly lz) (cn .f32 near) (cn .f32 most) n && tileOk nx ny 0 0 nx ny)):=⟨_,rfl⟩
 rw [← hOk.out]
 obtain ⟨L,hL⟩:∃ L,Hid (picB (fun x y => shadeF (atS ns) capS (fun F T mo => marchGs (atS ns) F T (slopeF ns) (cn .f32 near) mo n.toNat 1 0) (cv a b c) (wayP (cv a b c) (cv d e f) (cn .f32 wd) nx ny x y) (cv lx ly lz) (cn .f32 near) (cn .f32 most)) 0 0 nx.toNat ny.toNat = L):=⟨_,rfl⟩
 rw [hL.out]
 go_enter Tryz.func49,Tryz.ntmps49
 go_upto_region 1 with fail
 generalize hW:w.alloc (.cells #[.slice bp ns.length cap,F1 a,F1 b,F1 c,F1 d,F1 e,F1 f,F1 wd,.int .i64 nx,.int .i64 ny,F1 lx,F1 ly,F1 lz,F1 near,F1 most,.int .i64 n] 86) = W1 at *
 have W1b:Below w.heap.size w W1:=by subst hW;exact (by repeat' (first | exact Below.refl _ _ | exact Nat.le_refl _ | refine below_drewN ?_ _ | refine Below.alloc ?_ (by simp <;> omega) _ | refine Below.setCell ?_ (by simp <;> omega) _ | refine below_step ?_ (by assumption)))
 have hkept:Kept [(⟨w.heap.size,0,none⟩,.slice bp ns.length cap),(⟨w.heap.size,1,none⟩,F1 a),(⟨w.heap.size,2,none⟩,F1 b),(⟨w.heap.size,3,none⟩,F1 c),(⟨w.heap.size,4,none⟩,F1 d),(⟨w.heap.size,5,none⟩,F1 e),(⟨w.heap.size,6,none⟩,F1 f),(⟨w.heap.size,7,none⟩,F1 wd),(⟨w.heap.size,8,none⟩,.int .i64 nx),(⟨w.heap.size,9,none⟩,.int .i64 ny),(⟨w.heap.size,10,none⟩,F1 lx),(⟨w.heap.size,11,none⟩,F1 ly),(⟨w.heap.size,12,none⟩,F1 lz),(⟨w.heap.size,13,none⟩,F1 near),(⟨w.heap.size,14,none⟩,F1 most),(⟨w.heap.size,15,none⟩,.int .i64 n)] [] W1:=by
  subst hW;simp only [Kept,ka,kb,kc,kd,ke,kfa,kga];(first | (go_simp;done) | (simp [World.cell?,World.frozen?,World.alloc,Array.getElem?_push];done))
 clear hW
 have hK:=hkept;simp only [Kept,ka,kb,kc,kd,ke,kfa,kga] at hK
 have hvv:Calls Tryz.prog 98 #[.pointer (some ⟨w.heap.size,0,none⟩)] W1 (fun e' w'' => e' = .returned (.bool (viewOk (validS ns) (cv a b c) (cv d e f) (cn .f32 wd) nx ny (cv lx ly lz) (cn .f32 near) (cn .f32 most) n)) ∧ Below W1.heap.size W1 w''):=s_scene_any w.heap.size ns hnum nb no cap a b c d e f wd nx ny lx ly lz near most n bp W1 hbp (fun i h => (hsh i h).keep W1b) hlen (by have hK2:=hkept;simp only [Kept,ka,kb,kc,kd,ke,kfa,kga] at hK2;simp only [Kept,ka,kb,kc,kd,ke,kfa,kga];simp [hK2])
 have R1:=Below.refl W1.heap.size W1
 have t1:True:=trivial
 cases hval:viewOk (validS ns) (cv a b c) (cv d e f) (cn .f32 wd) nx ny (cv lx ly lz) (cn .f32 near) (cn .f32 most) n
 ·have hno:ok = false:=by rw [hOk.out,hval];rfl
  rw [hval] at hvv
  clear hOk hsh hbp hnum hL
  subst hno
  go_wp2_with (go_at_call 98;refine hvv.mono ?_;rintro _ w4 ⟨rfl,hb1⟩;have R1:=below_step R1 hb1;have hkept:=keepT hkept hb1 rfl;clear hK;have hK:=hkept;simp only [Kept,ka,kb,kc,kd,ke,kfa,kga] at hK)
  exact bodyPost_ret (v:=.tuple #[.string ⟨#[]⟩,.bool false]) (by simp [results,Tryz.results49,go_sem];first | done | (rfl;done) | (repeat' constructor)) rfl ⟨rfl,below_step W1b R1⟩
 obtain ⟨hvf,hcam,hmar⟩:=view_parts hval
 rw [hval] at hvv
 have hOk2:=hOk.out
 rw [hval] at hOk2
 clear hOk
 obtain ⟨m,rfl⟩:=Int.eq_ofNat_of_zero_le (show 0 ≤ n by have:=mar_steps hmar;omega)
 have hm64:m ≤ 64:=by have:=mar_steps hmar;omega
 have hokk:=hvok hvf
 have hl:1 ≤ ns.length ∧ ns.length ≤ 16:=by
  have hvs:=hvf
  simp only [validS,Bool.and_eq_true,decide_eq_true_eq] at hvs
  exact hvs.1
 have hb:=hbp (by intro h;rw [h] at hl;simp at hl)
 subst hb
 have hrest:=whole_ok hcam
 have hyes:ok = true:=by rw [hOk2,hrest];rfl
 subst hyes
 have hV0:∀ w',Below W1.heap.size W1 w' → ViewIn ns w.heap.size nb no cap a b c d e f wd nx ny lx ly lz near most m w':=fun w' hb => ⟨by have hK2:=keep hkept hb;simp only [Kept,ka,kb,kc,kd,ke,kfa,kga] at hK2;simp only [Kept,ka,kb,kc,kd,ke,kfa,kga];simp [hK2],fun i h => (hsh i h).keep (below_step W1b hb)⟩
 have hsh2:=Lib.hid hsh
 clear hsh hbp
 obtain ⟨u,v,rfl,rfl,hX,hY,hu1,hu,hv1,hv⟩:=tile_parts (cam_sizes hcam) hrest
 have hL2:=hL.out
 simp only [Int.toNat_natCast] at hL2
 have hren:∀ tb w',Below W1.heap.size W1 w' → Kept [(⟨tb,0,none⟩,.int .i64 0),(⟨tb,0 + 1,none⟩,.int .i64 0),(⟨tb,0 + 2,none⟩,.int .i64 (u:Int)),(⟨tb,0 + 3,none⟩,.int .i64 (v:Int))] [] w' → Calls Tryz.prog 109 #[.pointer (some ⟨w.heap.size,0,none⟩),.pointer (some ⟨tb,0,none⟩)] w' (fun e w'' => e = .returned (.string ⟨L.toArray⟩) ∧ Below w'.heap.size w' w''):=fun tb w' h hT => by rw [← hL2];exact s_part_any w.heap.size tb 0 _ 0 0 u v hX hY hu1 hu hv1 hv w' hT (fun x y w'' hb => s_shade_any ns hvf hokk hnum w.heap.size nb no cap a b c d e f wd u v lx ly lz near most m hm64 x y w'' ((hV0 w' h).keep hb))
 have hwh:∀ w',Below W1.heap.size W1 w' → Calls Tryz.prog 108 #[.pointer (some ⟨w.heap.size,1,none⟩)] w' (fun e' w'' => e' = .returned (TilV 0 0 u v) ∧ Below w'.heap.size w' w''):=fun w' h => s_whole_any a b c d e f wd u v w.heap.size 1 w' (hV0 w' h).cam
 clear hnum hOk2 hval hrest hL hL2 hV0
 go_upto_region 4 with (first
  | (go_at_call 98;refine hvv.mono ?_;rintro _ w4 ⟨rfl,hb1⟩;have R1:=below_step R1 hb1;have hkept:=keepT hkept hb1 rfl;clear hK;have hK:=hkept;simp only [Kept,ka,kb,kc,kd,ke,kfa,kga] at hK)
  | (go_at_call 108;refine (hwh _ R1).mono ?_;rintro _ w5 ⟨rfl,hb1⟩;have R1:=below_step R1 hb1;have hkept:=keepT hkept hb1 rfl;clear hK;have hK:=hkept;simp only [Kept,ka,kb,kc,kd,ke,kfa,kga] at hK))
 have hb2:Below w5.heap.size w5 (w5.alloc (.cells #[.int .i64 0,.int .i64 0,.int .i64 (u:Int),.int .i64 (v:Int)] 99)):=(Below.refl _ _).alloc (Nat.le_refl _) _
 have hT5:Kept [(⟨w5.heap.size,0,none⟩,.int .i64 0),(⟨w5.heap.size,1,none⟩,.int .i64 0),(⟨w5.heap.size,2,none⟩,.int .i64 (u:Int)),(⟨w5.heap.size,3,none⟩,.int .i64 (v:Int))] [] (w5.alloc (.cells #[.int .i64 0,.int .i64 0,.int .i64 (u:Int),.int .i64 (v:Int)] 99)):=by simp only [Kept,ka,kb,kc,kd,ke,kfa,kga];simp
 have hkept:=kept_app (keep hkept hb2) hT5
 have R1:=below_step R1 hb2
 generalize w5.alloc (.cells #[.int .i64 0,.int .i64 0,.int .i64 (u:Int),.int .i64 (v:Int)] 99) = w6 at *
 generalize w5.heap.size = tb at *
 clear hb2 hK hwh hvv
 have hK:=hkept;simp only [Kept,ka,kb,kc,kd,ke,kfa,kga] at hK
 go_wp2_with (go_at_call 109;refine (hren _ _ R1 hT5).mono ?_;rintro _ w7 ⟨rfl,hb3⟩;have R1:=below_step R1 hb3)
 exact bodyPost_ret (v:=.tuple #[.string ⟨L.toArray⟩,.bool true]) (by simp [results,Tryz.results49,go_sem];first | done | (rfl;done) | (repeat' constructor)) rfl ⟨rfl,below_step W1b R1⟩

end Go.Proofs.YtbiacfkiakddiaaGreat

namespace Go.Proofs.YtbiacfkiakddiaaGreat
open Go.RowKit Go.Fl
theorem pic_same (ns:List PN) (f t:Nat × Nat × Nat) (wd:Nat) (nx ny:Int) (l:Nat × Nat × Nat) (near most:Nat) (st:Int) (k:Bool) (X Y:Int) (p q:Nat) :
  (if (viewOk (validF ns) f t wd nx ny l near most st && k) = true then picB (fun x y => shadeF (atS ns) capS (fun F T mo => marchGs (atS ns) F T (slopeF ns) near mo st.toNat 1 0) f (wayP f t wd nx ny x y) l near most) X Y p q else []) = (if (viewOk (validF ns) f t wd nx ny l near most st && k) = true then picB (fun x y => shadeF (topF ns) capF (fun F T mo => marchGo (topF ns) F T (slopeF ns) near mo st.toNat 1 0) f (wayP f t wd nx ny x y) l near most) X Y p q else []):=by
 by_cases h:(viewOk (validF ns) f t wd nx ny l near most st && k) = true
 ·rw [if_pos h,if_pos h]
  rw [Bool.and_eq_true] at h
  obtain ⟨h1,_,h3⟩:=view_parts h.1
  exact congrArg (fun S => picB S X Y p q) (funext fun x => funext fun y => shade_same h1 h3 f _ l st.toNat)
 ·rw [if_neg h,if_neg h]

end Go.Proofs.YtbiacfkiakddiaaGreat
