/-
 Lemmas: D13.
-/
import Derived.Test.YtbiacfkiakddiaaGreatNcd
set_option linter.unusedVariables false
set_option linter.unusedSimpArgs false
namespace Go.Proofs.YtbiacfkiakddiaaGreat
open Go.RowKit Go.Fl
theorem shade_same {ns:List PN} (hv:validF ns = true) {near most:Nat} {n:Int} (hm:marOk near most n = true) (f W l:Nat × Nat × Nat) (m:Nat) :
  shadeF (atS ns) capS (fun F T mo => marchGs (atS ns) F T (slopeF ns) near mo m 1 0) f W l near most = shadeF (topF ns) capF (fun F T mo => marchGo (topF ns) F T (slopeF ns) near mo m 1 0) f W l near most:=by
 obtain ⟨hn,hmo⟩:=mar_parts hm
 have hD:∀ q q',Zv q q' → Zw .f32 (topF ns q) (atS ns q'):=fun q q' h => top_zv (tree_of hv) h
 have hG:∀ F T,marchGs (atS ns) F T (slopeF ns) near most m 1 0 = marchGo (topF ns) F T (slopeF ns) near most m 1 0:=fun F T => march_zv hD (Zv.refl F) (Zv.refl T) (slopeF ns) hn hmo (Zw.refl _ most) m 1 0
 unfold shadeF
 simp only [hG]
 by_cases hr:rayOk f W = true
 ·rw [if_pos hr,if_pos hr]
  by_cases h1:(marchGo (topF ns) f W (slopeF ns) near most m 1 0).1 = 1
  ·rw [if_pos h1,if_pos h1]
   generalize onF f W (marchGo (topF ns) f W (slopeF ns) near most m 1 0).2.2 = p
   have hz:=norm_zv (fun q => hD q q (Zv.refl q)) p near
   unfold shadeP
   rw [shadow_zv hD (Zv.refl p) hz l (slopeF ns) hn hmo m,amball_zv hD (Zv.refl p) hz,lit_zv hz]
  ·rw [if_neg h1,if_neg h1]
 ·rw [if_neg hr,if_neg hr]

theorem view_parts {v:Bool} {f t:Nat × Nat × Nat} {wd:Nat} {nx ny:Int} {l:Nat × Nat × Nat} {near most:Nat} {n:Int} (h:viewOk v f t wd nx ny l near most n = true):v = true ∧ camOk f t wd nx ny = true ∧ marOk near most n = true:=by
 unfold viewOk at h
 simp only [Bool.and_eq_true] at h
 exact ⟨h.1.1.1,h.1.1.2,h.2⟩
theorem mar_steps {near most:Nat} {n:Int} (h:marOk near most n = true):1 ≤ n ∧ n ≤ 64:=by
 unfold marOk at h
 simp only [Bool.and_eq_true,decide_eq_true_eq] at h
 exact h.2


set_option maxRecDepth 100000 in
set_option maxHeartbeats 4000000 in
theorem shadeat_any (ns:List PN) (hnum:∀ n ∈ ns,n.nums.length < 10000000) (nb no cap a b c d e f wd:Nat) (nx ny:Int) (lx ly lz near most:Nat) (n:Int) (bp:Option Addr) (w:World) (hbp:ns ≠ [] → bp = some ⟨nb,no,none⟩) (hsh:∀ i (h:i < ns.length),NodeIn ns[i] nb (no + i * 4) w) (hlen:ns.length < 10000000) (x y:Int) :
  Calls Tryz.prog 46 #[ViewV bp ns.length cap a b c d e f wd nx ny lx ly lz near most n,.int .i64 x,.int .i64 y] w (RetA (viewOk (validF ns) (cv a b c) (cv d e f) (cn .f32 wd) nx ny (cv lx ly lz) (cn .f32 near) (cn .f32 most) n && pixOk nx ny x y) (shadeF (topF ns) capF (fun F T mo => marchGo (topF ns) F T (slopeF ns) (cn .f32 near) mo n.toNat 1 0) (cv a b c) (wayP (cv a b c) (cv d e f) (cn .f32 wd) nx ny x y) (cv lx ly lz) (cn .f32 near) (cn .f32 most)) w):=by
 obtain ⟨ok,hOk⟩:∃ ok,Hid (ok = (viewOk (validF ns) (cv a b c) (cv d e f) (cn .f32 wd) nx ny (cv lx ly lz) (cn .f32 near) (cn .f32 most) n && pixOk nx ny x y)):=⟨_,rfl⟩
 rw [← hOk.out]
 have hvv:∀ w',Below w.heap.size w w' → Calls Tryz.prog 103 #[ViewV bp ns.length cap a b c d e f wd nx ny lx ly lz near most n] w' (fun e' w'' => e' = .returned (.bool (viewOk (validF ns) (cv a b c) (cv d e f) (cn .f32 wd) nx ny (cv lx ly lz) (cn .f32 near) (cn .f32 most) n)) ∧ Below w'.heap.size w' w''):=fun w' hb => view_any ns hnum nb no cap a b c d e f wd nx ny lx ly lz near most n bp w' hbp (fun i h => (hsh i h).keep hb) hlen
 go_enter Tryz.func46,Tryz.ntmps46
 go_upto_region 1 with fail
 generalize hW:w.alloc (.cells #[.slice bp ns.length cap,F1 a,F1 b,F1 c,F1 d,F1 e,F1 f,F1 wd,.int .i64 nx,.int .i64 ny,F1 lx,F1 ly,F1 lz,F1 near,F1 most,.int .i64 n] 86) = W1 at *
 have W1b:Below w.heap.size w W1:=by subst hW;exact (by repeat' (first | exact Below.refl _ _ | exact Nat.le_refl _ | refine below_drewN ?_ _ | refine Below.alloc ?_ (by simp <;> omega) _ | refine Below.setCell ?_ (by simp <;> omega) _ | refine below_step ?_ (by assumption)))
 have hkept:Kept [(⟨w.heap.size,0,none⟩,.slice bp ns.length cap),(⟨w.heap.size,1,none⟩,F1 a),(⟨w.heap.size,2,none⟩,F1 b),(⟨w.heap.size,3,none⟩,F1 c),(⟨w.heap.size,4,none⟩,F1 d),(⟨w.heap.size,5,none⟩,F1 e),(⟨w.heap.size,6,none⟩,F1 f),(⟨w.heap.size,7,none⟩,F1 wd),(⟨w.heap.size,8,none⟩,.int .i64 nx),(⟨w.heap.size,9,none⟩,.int .i64 ny),(⟨w.heap.size,10,none⟩,F1 lx),(⟨w.heap.size,11,none⟩,F1 ly),(⟨w.heap.size,12,none⟩,F1 lz),(⟨w.heap.size,13,none⟩,F1 near),(⟨w.heap.size,14,none⟩,F1 most),(⟨w.heap.size,15,none⟩,.int .i64 n)] [] W1:=by
  subst hW;simp only [Kept,ka,kb,kc,kd,ke,and_true,true_and];(first | (go_simp;done) | (simp [World.cell?,World.frozen?,World.alloc,Array.getElem?_push];done))
 clear hW
 have hK:=hkept;simp only [Kept,ka,kb,kc,kd,ke,and_true,true_and] at hK
 cases hval:viewOk (validF ns) (cv a b c) (cv d e f) (cn .f32 wd) nx ny (cv lx ly lz) (cn .f32 near) (cn .f32 most) n
 ·have hno:ok = false:=by rw [hOk.out,hval];rfl
  rw [hval] at hvv
  clear hOk hsh hbp hnum
  go_wp2_with (go_at_call 103;refine (hvv _ W1b).mono ?_;rintro _ w4 ⟨rfl,hb1⟩;have W1b:=below_step W1b hb1)
  exact bodyPost_ret (v:=.tuple #[F1 0,.bool false]) (by simp [results,Tryz.results46,go_sem];first | done | (rfl;done) | (repeat' constructor)) rfl (retA_no hno W1b)
 obtain ⟨hvf,hcam,hmar⟩:=view_parts hval
 rw [hval] at hvv
 obtain ⟨m,rfl⟩:=Int.eq_ofNat_of_zero_le (show 0 ≤ n by have:=mar_steps hmar;omega)
 have hm64:m ≤ 64:=by have:=mar_steps hmar;omega
 obtain ⟨hl,hokk⟩:=valid_ok hvf
 have hb:=hbp (by intro h;rw [h] at hl;simp at hl)
 subst hb
 have hV:∀ w',Below w.heap.size w w' → Kept [(⟨w.heap.size,0,none⟩,.slice (some ⟨nb,no,none⟩) ns.length cap),(⟨w.heap.size,1,none⟩,F1 a),(⟨w.heap.size,2,none⟩,F1 b),(⟨w.heap.size,3,none⟩,F1 c),(⟨w.heap.size,4,none⟩,F1 d),(⟨w.heap.size,5,none⟩,F1 e),(⟨w.heap.size,6,none⟩,F1 f),(⟨w.heap.size,7,none⟩,F1 wd),(⟨w.heap.size,8,none⟩,.int .i64 nx),(⟨w.heap.size,9,none⟩,.int .i64 ny),(⟨w.heap.size,10,none⟩,F1 lx),(⟨w.heap.size,11,none⟩,F1 ly),(⟨w.heap.size,12,none⟩,F1 lz),(⟨w.heap.size,13,none⟩,F1 near),(⟨w.heap.size,14,none⟩,F1 most),(⟨w.heap.size,15,none⟩,.int .i64 (m:Int))] [] w' → ViewIn ns w.heap.size nb no cap a b c d e f wd nx ny lx ly lz near most m w':=fun w' hb hk => ⟨hk,fun i h => (hsh i h).keep hb⟩
 have hsh2:=Lib.hid hsh
 clear hsh hbp
 have hhas:∀ w',ViewIn ns w.heap.size nb no cap a b c d e f wd nx ny lx ly lz near most m w' → Calls Tryz.prog 104 #[.pointer (some ⟨w.heap.size,1,none⟩),.int .i64 x,.int .i64 y] w' (fun e' w'' => e' = .returned (.bool (pixOk nx ny x y)) ∧ Below w'.heap.size w' w''):=fun w' h => has_any a b c d e f wd nx ny x y w.heap.size 1 w' h.cam hcam
 have hrest:pixOk nx ny x y = ok:=by rw [hOk.out,hval];rfl
 rw [hrest] at hhas
 clear hOk hval hrest
 cases ok
 ·go_wp2_with (first
   | (go_at_call 103;refine (hvv _ W1b).mono ?_;rintro _ w4 ⟨rfl,hb1⟩;have W1b:=below_step W1b hb1;have hkept:=keepT hkept hb1 rfl;clear hK;have hK:=hkept;simp only [Kept,ka,kb,kc,kd,ke,and_true,true_and] at hK;have hV2:=hV _ W1b hkept)
   | (go_at_call 104;refine (hhas _ hV2).mono ?_;rintro _ w5 ⟨rfl,hb1⟩;have W1b:=below_step W1b hb1;have hV2:=hV2.keep hb1;have hkept:=keepT hkept hb1 rfl;clear hK;have hK:=hkept;simp only [Kept,ka,kb,kc,kd,ke,and_true,true_and] at hK))
  exact bodyPost_ret (v:=.tuple #[F1 0,.bool false]) (by simp [results,Tryz.results46,go_sem];first | done | (rfl;done) | (repeat' constructor)) rfl (retA_no rfl W1b)
 ·have hshd:∀ w',ViewIn ns w.heap.size nb no cap a b c d e f wd nx ny lx ly lz near most m w' → Calls Tryz.prog 105 #[.pointer (some ⟨w.heap.size,0,none⟩),.int .i64 x,.int .i64 y] w' (Ret .f32 (shadeF (topF ns) capF (fun F T mo => marchGo (topF ns) F T (slopeF ns) (cn .f32 near) mo m 1 0) (cv a b c) (wayP (cv a b c) (cv d e f) (cn .f32 wd) nx ny x y) (cv lx ly lz) (cn .f32 near) (cn .f32 most)) w'):=fun w' h => shade_any ns hvf hnum w.heap.size nb no cap a b c d e f wd nx ny lx ly lz near most m hm64 hmar x y w' h
  clear hnum
  go_wp2_with (first
   | (go_at_call 103;refine (hvv _ W1b).mono ?_;rintro _ w4 ⟨rfl,hb1⟩;have W1b:=below_step W1b hb1;have hkept:=keepT hkept hb1 rfl;clear hK;have hK:=hkept;simp only [Kept,ka,kb,kc,kd,ke,and_true,true_and] at hK;have hV2:=hV _ W1b hkept)
   | (go_at_call 104;refine (hhas _ hV2).mono ?_;rintro _ w5 ⟨rfl,hb1⟩;have W1b:=below_step W1b hb1;have hV2:=hV2.keep hb1;have hkept:=keepT hkept hb1 rfl;clear hK;have hK:=hkept;simp only [Kept,ka,kb,kc,kd,ke,and_true,true_and] at hK)
   | (go_at_call 105;refine (hshd _ hV2).mono ?_;rintro _ w6 ⟨r,rfl,hr,hb1⟩;have W1b:=below_step W1b hb1))
  exact bodyPost_ret (v:=.tuple #[F1 r,.bool true]) (by simp [results,Tryz.results46,go_sem];first | done | (rfl;done) | (repeat' constructor)) rfl ⟨r,rfl,hr,W1b⟩
set_option maxRecDepth 100000 in
set_option maxHeartbeats 4000000 in
theorem s_shadeat_any (ns:List PN) (hnum:∀ n ∈ ns,n.nums.length < 10000000) (nb no cap a b c d e f wd:Nat) (nx ny:Int) (lx ly lz near most:Nat) (n:Int) (bp:Option Addr) (w:World) (hbp:ns ≠ [] → bp = some ⟨nb,no,none⟩) (hsh:∀ i (h:i < ns.length),NodeIn ns[i] nb (no + i * 4) w) (hlen:ns.length < 10000000) (hvok:validS ns = true → OkAll ns) (x y:Int) :
  Calls Tryz.prog 44 #[ViewV bp ns.length cap a b c d e f wd nx ny lx ly lz near most n,.int .i64 x,.int .i64 y] w (RetA (viewOk (validS ns) (cv a b c) (cv d e f) (cn .f32 wd) nx ny (cv lx ly lz) (cn .f32 near) (cn .f32 most) n && pixOk nx ny x y) (shadeF (atS ns) capS (fun F T mo => marchGs (atS ns) F T (slopeF ns) (cn .f32 near) mo n.toNat 1 0) (cv a b c) (wayP (cv a b c) (cv d e f) (cn .f32 wd) nx ny x y) (cv lx ly lz) (cn .f32 near) (cn .f32 most)) w):=by
 obtain ⟨ok,hOk⟩:∃ ok,Hid (ok = (viewOk (validS ns) (cv a b c) (cv d e f) (cn .f32 wd) nx ny (cv lx ly lz) (cn .f32 near) (cn .f32 most) n && pixOk nx ny x y)):=⟨_,rfl⟩
 rw [← hOk.out]
 go_enter Tryz.func44,Tryz.ntmps44
 go_upto_region 1 with fail
 generalize hW:w.alloc (.cells #[.slice bp ns.length cap,F1 a,F1 b,F1 c,F1 d,F1 e,F1 f,F1 wd,.int .i64 nx,.int .i64 ny,F1 lx,F1 ly,F1 lz,F1 near,F1 most,.int .i64 n] 86) = W1 at *
 have W1b:Below w.heap.size w W1:=by subst hW;exact (by repeat' (first | exact Below.refl _ _ | exact Nat.le_refl _ | refine below_drewN ?_ _ | refine Below.alloc ?_ (by simp <;> omega) _ | refine Below.setCell ?_ (by simp <;> omega) _ | refine below_step ?_ (by assumption)))
 have hkept:Kept [(⟨w.heap.size,0,none⟩,.slice bp ns.length cap),(⟨w.heap.size,1,none⟩,F1 a),(⟨w.heap.size,2,none⟩,F1 b),(⟨w.heap.size,3,none⟩,F1 c),(⟨w.heap.size,4,none⟩,F1 d),(⟨w.heap.size,5,none⟩,F1 e),(⟨w.heap.size,6,none⟩,F1 f),(⟨w.heap.size,7,none⟩,F1 wd),(⟨w.heap.size,8,none⟩,.int .i64 nx),(⟨w.heap.size,9,none⟩,.int .i64 ny),(⟨w.heap.size,10,none⟩,F1 lx),(⟨w.heap.size,11,none⟩,F1 ly),(⟨w.heap.size,12,none⟩,F1 lz),(⟨w.heap.size,13,none⟩,F1 near),(⟨w.heap.size,14,none⟩,F1 most),(⟨w.heap.size,15,none⟩,.int .i64 n)] [] W1:=by
  subst hW;simp only [Kept,ka,kb,kc,kd,ke,and_true,true_and];(first | (go_simp;done) | (simp [World.cell?,World.frozen?,World.alloc,Array.getElem?_push];done))
 clear hW
 have hK:=hkept;simp only [Kept,ka,kb,kc,kd,ke,and_true,true_and] at hK
 have hvv:Calls Tryz.prog 98 #[.pointer (some ⟨w.heap.size,0,none⟩)] W1 (fun e' w'' => e' = .returned (.bool (viewOk (validS ns) (cv a b c) (cv d e f) (cn .f32 wd) nx ny (cv lx ly lz) (cn .f32 near) (cn .f32 most) n)) ∧ Below W1.heap.size W1 w''):=s_scene_any w.heap.size ns hnum nb no cap a b c d e f wd nx ny lx ly lz near most n bp W1 hbp (fun i h => (hsh i h).keep W1b) hlen hkept
 cases hval:viewOk (validS ns) (cv a b c) (cv d e f) (cn .f32 wd) nx ny (cv lx ly lz) (cn .f32 near) (cn .f32 most) n
 ·have hno:ok = false:=by rw [hOk.out,hval];rfl
  rw [hval] at hvv
  clear hOk hsh hbp hnum
  go_wp2_with (go_at_call 98;refine hvv.mono ?_;rintro _ w4 ⟨rfl,hb1⟩;have W1b:=below_step W1b hb1)
  exact bodyPost_ret (v:=.tuple #[F1 0,.bool false]) (by simp [results,Tryz.results44,go_sem];first | done | (rfl;done) | (repeat' constructor)) rfl (retA_no hno W1b)
 obtain ⟨hvf,hcam,hmar⟩:=view_parts hval
 rw [hval] at hvv
 obtain ⟨m,rfl⟩:=Int.eq_ofNat_of_zero_le (show 0 ≤ n by have:=mar_steps hmar;omega)
 have hm64:m ≤ 64:=by have:=mar_steps hmar;omega
 have hokk:=hvok hvf
 have hl:1 ≤ ns.length ∧ ns.length ≤ 16:=by
  have hvs:=hvf
  simp only [validS,Bool.and_eq_true,decide_eq_true_eq] at hvs
  exact hvs.1
 have hb:=hbp (by intro h;rw [h] at hl;simp at hl)
 subst hb
 have hV:∀ w',Below w.heap.size w w' → Kept [(⟨w.heap.size,0,none⟩,.slice (some ⟨nb,no,none⟩) ns.length cap),(⟨w.heap.size,1,none⟩,F1 a),(⟨w.heap.size,2,none⟩,F1 b),(⟨w.heap.size,3,none⟩,F1 c),(⟨w.heap.size,4,none⟩,F1 d),(⟨w.heap.size,5,none⟩,F1 e),(⟨w.heap.size,6,none⟩,F1 f),(⟨w.heap.size,7,none⟩,F1 wd),(⟨w.heap.size,8,none⟩,.int .i64 nx),(⟨w.heap.size,9,none⟩,.int .i64 ny),(⟨w.heap.size,10,none⟩,F1 lx),(⟨w.heap.size,11,none⟩,F1 ly),(⟨w.heap.size,12,none⟩,F1 lz),(⟨w.heap.size,13,none⟩,F1 near),(⟨w.heap.size,14,none⟩,F1 most),(⟨w.heap.size,15,none⟩,.int .i64 (m:Int))] [] w' → ViewIn ns w.heap.size nb no cap a b c d e f wd nx ny lx ly lz near most m w':=fun w' hb hk => ⟨hk,fun i h => (hsh i h).keep hb⟩
 have hsh2:=Lib.hid hsh
 clear hsh hbp
 have hhas:∀ w',ViewIn ns w.heap.size nb no cap a b c d e f wd nx ny lx ly lz near most m w' → Calls Tryz.prog 99 #[.pointer (some ⟨w.heap.size,1,none⟩),.int .i64 x,.int .i64 y] w' (fun e' w'' => e' = .returned (.bool (pixOk nx ny x y)) ∧ Below w'.heap.size w' w''):=fun w' h => s_pix_any a b c d e f wd nx ny x y w.heap.size 1 w' h.cam hcam
 have hrest:pixOk nx ny x y = ok:=by rw [hOk.out,hval];rfl
 rw [hrest] at hhas
 clear hOk hval hrest
 cases ok
 ·go_wp2_with (first
   | (go_at_call 98;refine hvv.mono ?_;rintro _ w4 ⟨rfl,hb1⟩;have W1b:=below_step W1b hb1;have hkept:=keepT hkept hb1 rfl;clear hK;have hK:=hkept;simp only [Kept,ka,kb,kc,kd,ke,and_true,true_and] at hK;have hV2:=hV _ W1b hkept)
   | (go_at_call 99;refine (hhas _ hV2).mono ?_;rintro _ w5 ⟨rfl,hb1⟩;have W1b:=below_step W1b hb1;have hV2:=hV2.keep hb1;have hkept:=keepT hkept hb1 rfl;clear hK;have hK:=hkept;simp only [Kept,ka,kb,kc,kd,ke,and_true,true_and] at hK))
  exact bodyPost_ret (v:=.tuple #[F1 0,.bool false]) (by simp [results,Tryz.results44,go_sem];first | done | (rfl;done) | (repeat' constructor)) rfl (retA_no rfl W1b)
 ·have hshd:∀ w',ViewIn ns w.heap.size nb no cap a b c d e f wd nx ny lx ly lz near most m w' → Calls Tryz.prog 100 #[.pointer (some ⟨w.heap.size,0,none⟩),.int .i64 x,.int .i64 y] w' (Ret .f32 (shadeF (atS ns) capS (fun F T mo => marchGs (atS ns) F T (slopeF ns) (cn .f32 near) mo m 1 0) (cv a b c) (wayP (cv a b c) (cv d e f) (cn .f32 wd) nx ny x y) (cv lx ly lz) (cn .f32 near) (cn .f32 most)) w'):=fun w' h => s_shade_any ns hvf hokk hnum w.heap.size nb no cap a b c d e f wd nx ny lx ly lz near most m hm64 x y w' h
  clear hnum
  go_wp2_with (first
   | (go_at_call 98;refine hvv.mono ?_;rintro _ w4 ⟨rfl,hb1⟩;have W1b:=below_step W1b hb1;have hkept:=keepT hkept hb1 rfl;clear hK;have hK:=hkept;simp only [Kept,ka,kb,kc,kd,ke,and_true,true_and] at hK;have hV2:=hV _ W1b hkept)
   | (go_at_call 99;refine (hhas _ hV2).mono ?_;rintro _ w5 ⟨rfl,hb1⟩;have W1b:=below_step W1b hb1;have hV2:=hV2.keep hb1;have hkept:=keepT hkept hb1 rfl;clear hK;have hK:=hkept;simp only [Kept,ka,kb,kc,kd,ke,and_true,true_and] at hK)
   | (go_at_call 100;refine (hshd _ hV2).mono ?_;rintro _ w6 ⟨r,rfl,hr,hb1⟩;have W1b:=below_step W1b hb1))
  exact bodyPost_ret (v:=.tuple #[F1 r,.bool true]) (by simp [results,Tryz.results44,go_sem];first | done | (rfl;done) | (repeat' constructor)) rfl ⟨r,rfl,hr,W1b⟩
end Go.Proofs.YtbiacfkiakddiaaGreat
