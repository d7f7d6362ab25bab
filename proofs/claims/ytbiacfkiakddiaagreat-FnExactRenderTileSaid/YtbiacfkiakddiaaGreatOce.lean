/-
 Lemmas: D11,D12,D13,D16.
-/
import Derived.Test.YtbiacfkiakddiaaGreatOcc
import Derived.Test.YtbiacfkiakddiaaGreatOcd
import Derived.Deep.CutRange
set_option linter.unusedVariables false
set_option linter.unusedSimpArgs false
namespace Go.Proofs.YtbiacfkiakddiaaGreat
open Go.RowKit Go.Fl
set_option maxRecDepth 100000 in
set_option maxHeartbeats 8000000 in
theorem s_shade_any (ns:List PN) (hvs:validS ns = true) (hok:OkAll ns) (hnum:∀ n ∈ ns,n.nums.length < 10000000) (vb nb no cap a b c d e f wd:Nat) (nx ny:Int) (lx ly lz near most m:Nat) (hm:m ≤ 64) (x y:Int) (w:World)
  (hV:ViewIn ns vb nb no cap a b c d e f wd nx ny lx ly lz near most m w) :
  Calls Tryz.prog 100 #[.pointer (some ⟨vb,0,none⟩),.int .i64 x,.int .i64 y] w
   (Ret .f32 (shadeF (atS ns) capS (fun F T mo => marchGs (atS ns) F T (slopeF ns) (cn .f32 near) mo m 1 0) (cv a b c) (wayP (cv a b c) (cv d e f) (cn .f32 wd) nx ny x y) (cv lx ly lz) (cn .f32 near) (cn .f32 most)) w):=by
 obtain ⟨W,hW⟩:∃ W,Hid (W = wayP (cv a b c) (cv d e f) (cn .f32 wd) nx ny x y):=⟨_,rfl⟩
 rw [← hW.out]
 obtain ⟨R,hR⟩:∃ R,Hid (R = shadeF (atS ns) capS (fun F T mo => marchGs (atS ns) F T (slopeF ns) (cn .f32 near) mo m 1 0) (cv a b c) W (cv lx ly lz) (cn .f32 near) (cn .f32 most)):=⟨_,rfl⟩
 rw [← hR.out]
 have hl:1 ≤ ns.length ∧ ns.length ≤ 16:=by
  simp only [validS,Bool.and_eq_true,decide_eq_true_eq] at hvs
  exact hvs.1
 have hray:∀ w',Below w.heap.size w w' → Calls Tryz.prog 161 #[.pointer (some ⟨vb,1,none⟩),.int .i64 x,.int .i64 y] w' (RetRay a b c W w'):=fun w' hb => by rw [hW.out];exact s_cray_any a b c d e f wd nx ny x y vb 1 w' (hV.keep hb).cam
 have hkept:=hV.kept
 have hVH:=Lib.hid hV
 have hnumH:=Lib.hid hnum
 clear hV hnum
 have hK:=hkept;simp only [Kept,ka,kb,kc,kd,ke,kfa,kga] at hK
 go_enter Tryz.func100,Tryz.ntmps100
 go_upto_region 1 with fail
 have W0b:=Below.refl w.heap.size w
 go_upto_region 2 with (go_at_call 161;refine (hray _ W0b).mono ?_;rintro _ w2 ⟨x1,y1,z1,rfl,e1,hb1⟩)
 have hb2:Below w2.heap.size w2 (w2.alloc (.cells #[F1 a,F1 b,F1 c,F1 x1,F1 y1,F1 z1] 225)):=(Below.refl _ _).alloc (Nat.le_refl _) _
 have hkept:=kept_app (keep (keep hkept hb1) hb2) (show Kept [(⟨w2.heap.size,0,none⟩,F1 a),(⟨w2.heap.size,1,none⟩,F1 b),(⟨w2.heap.size,2,none⟩,F1 c),(⟨w2.heap.size,3,none⟩,F1 x1),(⟨w2.heap.size,4,none⟩,F1 y1),(⟨w2.heap.size,5,none⟩,F1 z1)] [] (w2.alloc (.cells #[F1 a,F1 b,F1 c,F1 x1,F1 y1,F1 z1] 225)) by simp only [Kept,ka,kb,kc,kd,ke,kfa,kga];simp)
 have W1b:=below_step hb1 hb2
 generalize w2.alloc (.cells #[F1 a,F1 b,F1 c,F1 x1,F1 y1,F1 z1] 225) = w3 at *
 generalize w2.heap.size = gr at *
 clear hb1 hb2 hray hK
 have hK:=hkept;simp only [Kept,ka,kb,kc,kd,ke,kfa,kga] at hK
 have hri:RayIn a b c x1 y1 z1 gr 0 w3:=⟨by simp only [Kept,ka,kb,kc,kd,ke,kfa,kga];simp [hK]⟩
 have hvr:Calls Tryz.prog 162 #[.pointer (some ⟨gr,0,none⟩)] w3 (fun e' w'' => e' = .returned (.bool (rayOk (cv a b c) W)) ∧ Below w3.heap.size w3 w''):=by rw [← e1];exact s_ray_any a b c x1 y1 z1 gr 0 w3 hri
 cases hr:rayOk (cv a b c) W
 ·have h0:R = 0:=by rw [hR.out,shade_no hr]
  rw [hr] at hvr
  clear hR
  go_wp2_with (go_at_call 162;refine hvr.mono ?_;rintro _ w4 ⟨rfl,hb1⟩;have W1b:=below_step W1b hb1)
  go_ret
  exact ⟨0,rfl,by rw [h0,cn_zero],W1b⟩
 rw [hr] at hvr
 go_upto_region 4 with (go_at_call 162;refine hvr.mono ?_;rintro _ w4 ⟨rfl,hb1⟩;have W1b:=below_step W1b hb1;have hkept:=keepT hkept hb1 rfl;clear hK;have hK:=hkept;simp only [Kept,ka,kb,kc,kd,ke,kfa,kga] at hK)
 clear hvr hK
 have hri4:=hri.keep hb1
 obtain ⟨H,hH⟩:∃ H,Hid (marchGs (atS ns) (cv a b c) W (slopeF ns) (cn .f32 near) (cn .f32 most) m 1 0 = H):=⟨_,rfl⟩
 have hmar:∀ w',Below w4.heap.size w4 w' → Calls Tryz.prog 163 #[.pointer (some ⟨vb,0,none⟩),.pointer (some ⟨gr,0,none⟩),.pointer (some ⟨vb,13,none⟩)] w' (RetHit (cv a b c) W H w'):=fun w' hb => by
  rw [← hH.out,← e1]
  have hvw:=hVH.out.keep (below_step W1b hb)
  exact s_march_any ns hvs hnumH.out hok hl vb 0 nb no cap gr 0 vb 13 a b c x1 y1 z1 near most m hm w' hvw.shape (hri4.keep hb) hvw.march
 have hkW:=hkept
 refine Qr.wp_made 8 7 8 #[.int .i64 0,.int .i64 0,F1 0,F1 0,F1 0,F1 0] 230 (by kernel_rfl) (by kernel_rfl) (PhiDn 163 (fun v => ∃ far x y z,v = HitV H.1 H.2.1 far x y z ∧ cn .f32 far = H.2.2 ∧ cv x y z = onF (cv a b c) W H.2.2)) rfl (by kernel_rfl) ⟨_,rfl,rfl,fun a w => by go_simp⟩ (by kernel_rfl) ?_
 repeat (first
  | (refine Qr.walk_plain rfl fun K hK => ?_;apply Qr.one_det;(focus (intro w' hw';have HK:=keep hkept hw';simp only [Kept,ka,kb,kc,kd,ke,kfa,kga] at HK;go_simp;first | done | rfl));go_simp;refine hK _ ?_;clear hK K)
  | (refine Qr.walk_plain rfl fun K hK => ?_;refine Qr.one_rel (fun v => ∃ g,v = .pointer (some ⟨g,0,none⟩)) (fun w' hw' => ⟨.pointer (some ⟨w'.heap.size,0,none⟩),_,by go_simp;rfl,⟨_,rfl⟩,hw'.alloc hw'.size _,(Below.refl _ _).alloc (Nat.le_refl _) _⟩) (fun v hv => ?_);obtain ⟨g,rfl⟩:=hv;go_simp;refine hK _ ?_;clear hK K)
  | (refine Qr.walk_plain rfl fun K hK => ?_;apply Qr.one_call;(focus (intro w' hw';go_simp;first | done | exact ⟨rfl,rfl⟩));(focus (intro w' hw'; go_at_call 163;refine (hmar _ hw').mono ?_;rintro _ w6 ⟨far,x,y,z,rfl,h1,h2,hb1⟩;exact ⟨_,rfl,.mk _ _ ⟨far,x,y,z,rfl,h1,h2⟩,below_step hw' (by assumption),by assumption⟩));intro v hv;cases hv; rename_i hP;obtain ⟨far,hx,hy,hz,rfl,k1,k2⟩:=hP;go_simp;refine hK _ ?_;clear hK K))
 refine Qr.walk_nil fun w6 hw6 hmade => ?_
 obtain ⟨g3,hg3,hgw,hgc⟩:=hmade _ rfl
 injection hg3 with hg3
 injection hg3 with hg3
 subst hg3
 obtain ⟨⟨p0,p1,p2,p3,p4,p5⟩,q0,q1,q2,q3,q4,q5⟩:=cells6 hgc
 go_upto_region 5 with fail
 have h6:=set6 hgc (Nat.le_refl _) (.int .i64 (H.1:Int)) (.int .i64 (H.2.1:Int)) (F1 far) (F1 hx) (F1 hy) (F1 hz)
 have hbw:=hw6.trans (h6.2.mono hgw)
 clear p0 p1 p2 p3 p4 p5 q0 q1 q2 q3 q4 q5 hgc hw6 hmade
 generalize (((((w6.setCell ⟨g,0,none⟩ (.int .i64 (H.1:Int))).setCell ⟨g,1,none⟩ (.int .i64 (H.2.1:Int))).setCell ⟨g,2,none⟩ (F1 far)).setCell ⟨g,3,none⟩ (F1 hx)).setCell ⟨g,4,none⟩ (F1 hy)).setCell ⟨g,5,none⟩ (F1 hz) = w7 at h6 hbw ⊢
 have hkept:=kept_app (keep hkept hbw) (kept6 h6.1)
 have W1b:=below_step W1b hbw
 clear h6 hbw hgw hmar hkW
 generalize g = gh at *
 have hK:=hkept;simp only [Kept,ka,kb,kc,kd,ke,kfa,kga] at hK
 by_cases h1:H.1 = 1
 case neg =>
  have h0:R = 0:=by rw [hR.out];exact shade_miss (by simp only [hH.out];exact h1)
  have h1b:((H.1:Int) == 1) = false:=by rw [beq_eq_false_iff_ne];omega
  clear hR hH
  go_wp2_with fail
  go_ret
  exact ⟨0,rfl,by first | exact cn_zero _ | rw [h0,cn_zero],W1b⟩
 have h1b:((H.1:Int) == 1) = true:=by rw [beq_iff_eq];omega
 go_upto_region 8 with fail
 have hb8:Below w7.heap.size w7 (w7.alloc (.cells #[F1 hx,F1 hy,F1 hz] 38)):=(Below.refl _ _).alloc (Nat.le_refl _) _
 have hkept:=kept_app (keep hkept hb8) (show Kept [(⟨w7.heap.size,0,none⟩,F1 hx),(⟨w7.heap.size,1,none⟩,F1 hy),(⟨w7.heap.size,2,none⟩,F1 hz)] [] (w7.alloc (.cells #[F1 hx,F1 hy,F1 hz] 38)) by simp only [Kept,ka,kb,kc,kd,ke,kfa,kga];simp)
 have W1b:=below_step W1b hb8
 generalize w7.alloc (.cells #[F1 hx,F1 hy,F1 hz] 38) = w8 at *
 generalize w7.heap.size = gp at *
 clear hb8 hK
 obtain ⟨P,hP⟩:∃ P,Hid (P = cv hx hy hz):=⟨_,rfl⟩
 obtain ⟨n,hn⟩:∃ n,Hid (n = normF (atS ns) P (cn .f32 near)):=⟨_,rfl⟩
 have hnor:∀ w',Below w.heap.size w w' → Calls Tryz.prog 164 #[.pointer (some ⟨vb,0,none⟩),V3 hx hy hz,F1 near] w' (RetVv n w'):=fun w' hb => by rw [hn.out,hP.out];exact s_normal_any ns hok hl vb 0 nb no cap hx hy hz near w' (hVH.out.keep hb).shape
 have hRR:Hid (R = shadeP P n (cv lx ly lz) (shadow (fun F T mo => marchGs (atS ns) F T (slopeF ns) (cn .f32 near) mo m 1 0) P n (cv lx ly lz) (cn .f32 near) (cn .f32 most)) (ambAll (atS ns) capS P n (B .mul (cn .f32 1073741824) (cn .f32 near)) 4)):=by
  unfold Hid
  rw [hR.out]
  exact shade_hit hr hH.out h1 (hP.out.trans k2) hn.out
 clear hR hH k1 k2
 refine Qr.wp_made 11 10 10 #[F1 0,F1 0,F1 0] 38 (by kernel_rfl) (by kernel_rfl) (PhiDn 164 (fun v => ∃ x y z,v = V3 x y z ∧ cv x y z = n)) rfl (by kernel_rfl) ⟨_,rfl,rfl,fun a w => by go_simp⟩ (by kernel_rfl) ?_
 repeat (first
  | (refine Qr.walk_plain rfl fun K hK => ?_;apply Qr.one_det;(focus (intro w' hw';have HK:=keep hkept hw';simp only [Kept,ka,kb,kc,kd,ke,kfa,kga] at HK;go_simp;first | done | rfl));go_simp;refine hK _ ?_;clear hK K)
  | (refine Qr.walk_plain rfl fun K hK => ?_;refine Qr.one_rel (fun v => ∃ g,v = .pointer (some ⟨g,0,none⟩)) (fun w' hw' => ⟨.pointer (some ⟨w'.heap.size,0,none⟩),_,by go_simp;rfl,⟨_,rfl⟩,hw'.alloc hw'.size _,(Below.refl _ _).alloc (Nat.le_refl _) _⟩) (fun v hv => ?_);obtain ⟨g,rfl⟩:=hv;go_simp;refine hK _ ?_;clear hK K)
  | (refine Qr.walk_plain rfl fun K hK => ?_;apply Qr.one_call;(focus (intro w' hw';go_simp;first | done | exact ⟨rfl,rfl⟩));(focus (intro w' hw'; go_at_call 164;refine (hnor _ (below_step W1b hw')).mono ?_;rintro _ w6 ⟨x,y,z,rfl,h1,hb1⟩;exact ⟨_,rfl,.mk _ _ ⟨x,y,z,rfl,h1⟩,below_step hw' (by assumption),by assumption⟩));intro v hv;cases hv; rename_i hQ;obtain ⟨n1,n2,n3,rfl,k1⟩:=hQ;go_simp;refine hK _ ?_;clear hK K))
 refine Qr.walk_nil fun w9 hw9 hmade => ?_
 obtain ⟨g3,hg3,hgw,hgc⟩:=hmade _ rfl
 injection hg3 with hg3
 injection hg3 with hg3
 subst hg3
 obtain ⟨hc0,hc1,hc2,hf0,hf1,hf2⟩:=cells3 hgc
 go_upto_region 9 with fail
 have hset:=set3 hgc (F1 n1) (F1 n2) (F1 n3)
 have hbw:=hw9.trans (hset.2.mono hgw)
 clear hc0 hc1 hc2 hf0 hf1 hf2 hgc hw9 hmade
 generalize ((w9.setCell ⟨g,0,none⟩ (F1 n1)).setCell ⟨g,1,none⟩ (F1 n2)).setCell ⟨g,2,none⟩ (F1 n3) = w10 at hset hbw ⊢
 have hkept:=kept_app (keep hkept hbw) (kept3 hset.1)
 have W1b:=below_step W1b hbw
 clear hset hbw hgw hnor
 generalize g = gn at *
 refine Qr.wp_below_all (by kernel_rfl) (by kernel_rfl) (PhiLi 167 166 165) ?_
 repeat (first
  | (refine Qr.walk_plain rfl fun K hK => ?_;apply Qr.one_det;(focus (intro w' hw';have HK:=keep hkept hw';simp only [Kept,ka,kb,kc,kd,ke,kfa,kga] at HK;go_simp;first | done | rfl));go_simp;refine hK _ ?_;clear hK K)
  | (refine Qr.walk_plain rfl fun K hK => ?_;apply Qr.one_call;(focus (intro w' hw';go_simp;first | done | exact ⟨rfl,rfl⟩));(focus (intro w' hw'; go_at_call 167;refine (s_less_any _ _ _ _ _ _ _).mono ?_;rintro _ w3 ⟨r1,r2,r3,rfl,hr1,hr2,hr3,hb1⟩;exact ⟨_,rfl,.less _ _ _ _ _ _ _ _ _ (v3_mk hr1 hr2 hr3),below_step hw' (by assumption),by assumption⟩));intro v hv;cases hv; go_simp;refine hK _ ?_;clear hK K)
  | (refine Qr.walk_plain rfl fun K hK => ?_;apply Qr.one_call;(focus (intro w' hw';go_simp;first | done | exact ⟨rfl,rfl⟩));(focus (intro w' hw'; go_at_call 166;refine (s_unit_any _ _ _ _).mono ?_;rintro _ w3 ⟨r1,r2,r3,rfl,hr1,hr2,hr3,hb1⟩;exact ⟨_,rfl,.unit _ _ _ _ _ _ (v3_mk hr1 hr2 hr3),below_step hw' (by assumption),by assumption⟩));intro v hv;cases hv; go_simp;refine hK _ ?_;clear hK K)
  | (refine Qr.walk_plain rfl fun K hK => ?_;apply Qr.one_call;(focus (intro w' hw';go_simp;first | done | exact ⟨rfl,rfl⟩));(focus (intro w' hw'; go_at_call 165;refine (s_inner_any _ _ _ _ _ _ _).mono ?_;rintro _ w3 ⟨r1,rfl,hr1,hb1⟩;exact ⟨_,rfl,.inner _ _ _ _ _ _ _ hr1,below_step hw' (by assumption),by assumption⟩));intro v hv;cases hv; go_simp;refine hK _ ?_;clear hK K))
 rename_i a1 a2 a3 j1 b1 b2 b3 j2 dd j3
 refine Qr.walk_nil fun w11 hw11 => ?_
 have hd:cn .f32 dd = inV n (unitF (lessV (cv lx ly lz) P)):=by rw [j3,j2,j1,k1,hP.out]
 clear j1 j2 j3
 have hkept:=keep hkept hw11
 have W1b:=below_step W1b hw11
 clear hw11
 obtain ⟨sh,hsh⟩:∃ sh,Hid (shadow (fun F T mo => marchGs (atS ns) F T (slopeF ns) (cn .f32 near) mo m 1 0) P n (cv lx ly lz) (cn .f32 near) (cn .f32 most) = sh):=⟨_,rfl⟩
 have hRS:=hRR.out
 rw [hsh.out] at hRS
 have hRR:=Lib.hid hRS
 clear hRS
 have hK:=hkept;simp only [Kept,ka,kb,kc,kd,ke,kfa,kga] at hK
 have hshd:∀ w',Below w.heap.size w w' → Calls Tryz.prog 168 #[.pointer (some ⟨vb,0,none⟩),V3 hx hy hz,V3 n1 n2 n3,V3 lx ly lz,.pointer (some ⟨vb,13,none⟩)] w' (RetS sh w'):=fun w' hb => by
  have hvw:=hVH.out.keep hb
  rw [← hsh.out,hP.out,← k1]
  exact s_shadow_any ns hvs hnumH.out hok hl vb 0 nb no cap vb 13 hx hy hz n1 n2 n3 lx ly lz near most m hm w' hvw.shape hvw.march
 go_upto_region 10 with fail
 refine Qr.wp_below_all (by kernel_rfl) (by kernel_rfl) (PhiDn 168 (fun v => v = .tuple #[.bool sh.1,.bool sh.2])) ?_
 repeat (first
  | (refine Qr.walk_plain rfl fun K hK => ?_;apply Qr.one_det;(focus (intro w' hw';have HK:=keep hkept hw';simp only [Kept,ka,kb,kc,kd,ke,kfa,kga] at HK;go_simp;first | done | rfl));go_simp;refine hK _ ?_;clear hK K)
  | (refine Qr.walk_plain rfl fun K hK => ?_;apply Qr.one_call;(focus (intro w' hw';go_simp;first | done | exact ⟨rfl,rfl⟩));(focus (intro w' hw'; go_at_call 168;refine (hshd _ (below_step W1b hw')).mono ?_;rintro _ w6 ⟨rfl,hb1⟩;exact ⟨_,rfl,.mk _ _ rfl,below_step hw' (by assumption),by assumption⟩));intro v hv;cases hv; rename_i hQ;subst hQ;go_simp;refine hK _ ?_;clear hK K))
 refine Qr.walk_nil fun w12 hw12 => ?_
 have hkept:=keep hkept hw12
 have W1b:=below_step W1b hw12
 clear hw12 hshd hK
 have hamb:∀ r w',cn .f32 r = B .mul (cn .f32 1073741824) (cn .f32 near) → Below w.heap.size w w' → Calls Tryz.prog 169 #[.pointer (some ⟨vb,0,none⟩),V3 hx hy hz,V3 n1 n2 n3,F1 r,.int .i64 4] w' (Ret .f32 (ambAll (atS ns) capS P n (B .mul (cn .f32 1073741824) (cn .f32 near)) 4) w'):=fun r w' hr hb => by
  rw [← hr,hP.out,← k1]
  exact s_ambient_any ns hok hl vb 0 nb no cap hx hy hz n1 n2 n3 r 4 (by omega) w' (hVH.out.keep hb).shape
 have hll:litF P n (cv lx ly lz) sh = if (!(FloatKind.f32.format.order dd 0 == some .gt) || (sh.2 && sh.1)) then 0 else cn .f32 dd:=by
  unfold litF
  rw [← hd,show gtk .f32 (cn .f32 dd) 0 = (FloatKind.f32.format.order dd 0 == some .gt) from gtk_of rfl]
  cases (FloatKind.f32.format.order dd 0 == some .gt) <;> cases sh.2 <;> cases sh.1 <;> rfl
 have hfin:∀ r d1 am,cn .f32 am = ambAll (atS ns) capS P n (B .mul (cn .f32 1073741824) (cn .f32 near)) 4 → cn .f32 d1 = litF P n (cv lx ly lz) sh → cn .f32 r = B .add (B .mul (cn .f32 1048576000) (cn .f32 am)) (B .mul (cn .f32 1061158912) (cn .f32 d1)) → cn .f32 r = R:=fun r d1 am ham hd1 h => by rw [h,hRR.out,ham,hd1];rfl
 clear hRR hd
 go_upto_region 11 with fail
 cases hg:(FloatKind.f32.format.order dd 0 == some .gt) <;> cases h2:sh.2 <;> cases h1:sh.1
 all_goals
  rw [hg,h2,h1] at hll
  simp only [Bool.and_true,Bool.and_false,Bool.or_true,Bool.or_false,Bool.not_true,Bool.not_false,Bool.false_eq_true,if_true,if_false] at hll
  go_upto_region 13 with fail
  refine Qr.wp_below_all (by kernel_rfl) (by kernel_rfl) (PhiDn 169 (fun v => ∃ r,v = F1 r ∧ cn .f32 r = ambAll (atS ns) capS P n (B .mul (cn .f32 1073741824) (cn .f32 near)) 4)) ?_
  repeat (first
   | (refine Qr.walk_plain rfl fun K hK => ?_;refine one_bin _ _ _ _ _ rfl _ _ _ rfl rfl rfl (fun r hr => ?_);go_simp;refine hK _ ?_;clear hK K)
   | (refine Qr.walk_plain rfl fun K hK => ?_;apply Qr.one_det;(focus (intro w' hw';have HK:=keep hkept hw';simp only [Kept,ka,kb,kc,kd,ke,kfa,kga] at HK;go_simp;first | done | rfl));go_simp;refine hK _ ?_;clear hK K)
   | (refine Qr.walk_plain rfl fun K hK => ?_;apply Qr.one_call;(focus (intro w' hw';go_simp;first | done | exact ⟨rfl,rfl⟩));(focus (intro w' hw'; go_at_call 169;refine (hamb _ _ (by assumption) (below_step W1b hw')).mono ?_;rintro _ w6 ⟨r1,rfl,hr1,hb1⟩;exact ⟨_,rfl,.mk _ _ ⟨r1,rfl,hr1⟩,below_step hw' (by assumption),by assumption⟩));intro v hv;cases hv; rename_i hQ;obtain ⟨am,rfl,ham⟩:=hQ;go_simp;refine hK _ ?_;clear hK K))
  refine Qr.walk_nil fun w14 hw14 => ?_
  have W1b:=below_step W1b hw14
  clear hw14 hamb hkept
  generalize r = rs at *
  clear hr
  have hf:=fun r d1 => hfin r d1 am ham
  clear hfin ham
  go_wp2_with (refine wp_bin rfl _ _ _ _ _ rfl _ _ _ rfl rfl rfl ?_;intro r n hr)
  go_ret
  first
   | exact ⟨_,rfl,hf _ dd hll.symm (by simp only [*]),(by repeat' (first | exact Below.refl _ _ | exact Nat.le_refl _ | refine below_drewN ?_ _ | refine Below.alloc ?_ (by simp <;> omega) _ | refine Below.setCell ?_ (by simp <;> omega) _ | refine below_step ?_ (by assumption)))⟩
   | exact ⟨_,rfl,hf _ 0 (by rw [hll,cn_zero]) (by simp only [*]),(by repeat' (first | exact Below.refl _ _ | exact Nat.le_refl _ | refine below_drewN ?_ _ | refine Below.alloc ?_ (by simp <;> omega) _ | refine Below.setCell ?_ (by simp <;> omega) _ | refine below_step ?_ (by assumption)))⟩
end Go.Proofs.YtbiacfkiakddiaaGreat

namespace Go.Proofs.YtbiacfkiakddiaaGreat
open Go.RowKit Go.Fl
theorem ff4 (p q r s:Bool):p = false ∨ (p = true ∧ q = false) ∨ (p = true ∧ q = true ∧ r = false) ∨ (p = true ∧ q = true ∧ r = true ∧ s = false) ∨ (p = true ∧ q = true ∧ r = true ∧ s = true):=by cases p <;> cases q <;> cases r <;> cases s <;> simp
/-- A right view. -/
def viewOk (v:Bool) (f t:Nat × Nat × Nat) (wd:Nat) (nx ny:Int) (l:Nat × Nat × Nat) (near most:Nat) (n:Int):Bool:=v && camOk f t wd nx ny && vfin l && marOk near most n
abbrev ViewV (bp:Option Addr) (len cap a b c d e f wd:Nat) (nx ny:Int) (lx ly lz near most:Nat) (n:Int):Value:=.agg #[.slice bp len cap,F1 a,F1 b,F1 c,F1 d,F1 e,F1 f,F1 wd,.int .i64 nx,.int .i64 ny,F1 lx,F1 ly,F1 lz,F1 near,F1 most,.int .i64 n]

set_option maxRecDepth 100000 in
set_option maxHeartbeats 4000000 in
theorem view_any (ns:List PN) (hnum:∀ n ∈ ns,n.nums.length < 10000000) (nb no cap a b c d e f wd:Nat) (nx ny:Int) (lx ly lz near most:Nat) (n:Int) (bp:Option Addr) (w:World) (hbp:ns ≠ [] → bp = some ⟨nb,no,none⟩) (hsh:∀ i (h:i < ns.length),NodeIn ns[i] nb (no + i * 4) w) (hlen:ns.length < 10000000) :
  Calls Tryz.prog 103 #[ViewV bp ns.length cap a b c d e f wd nx ny lx ly lz near most n] w (fun e' w' => e' = .returned (.bool (viewOk (validF ns) (cv a b c) (cv d e f) (cn .f32 wd) nx ny (cv lx ly lz) (cn .f32 near) (cn .f32 most) n)) ∧ Below w.heap.size w w'):=by
 obtain ⟨U,hU⟩:∃ U,Hid (viewOk (validF ns) (cv a b c) (cv d e f) (cn .f32 wd) nx ny (cv lx ly lz) (cn .f32 near) (cn .f32 most) n = U):=⟨_,rfl⟩
 rw [hU.out]
 have hUo:=hU.out
 unfold viewOk at hUo
 clear hU
 have hva:∀ w',Below w.heap.size w w' → Calls Tryz.prog 65 #[.agg #[.slice bp ns.length cap]] w' (fun e w'' => e = .returned (.bool (validF ns)) ∧ Below w'.heap.size w' w''):=fun w' hb => valid_any ns hnum nb no cap bp w' hbp (fun i h => (hsh i h).keep hb) hlen
 have hca:∀ w',Calls Tryz.prog 170 #[CamV a b c d e f wd nx ny] w' (fun e' w'' => e' = .returned (.bool (camOk (cv a b c) (cv d e f) (cn .f32 wd) nx ny)) ∧ Below w'.heap.size w' w''):=fun w' => cam_any a b c d e f wd nx ny w'
 have hma:∀ w',Calls Tryz.prog 171 #[.agg #[F1 near,F1 most,.int .i64 n]] w' (fun e' w'' => e' = .returned (.bool (marOk (cn .f32 near) (cn .f32 most) n)) ∧ Below w'.heap.size w' w''):=fun w' => mar_any near most n w'
 have hfi:∀ w',Calls Tryz.prog 132 #[V3 lx ly lz] w' (fun e' w'' => e' = .returned (.bool (vfin (cv lx ly lz))) ∧ Below w'.heap.size w' w''):=fun w' => vfin_any lx ly lz w'
 clear hbp hsh hnum
 generalize validF ns = p1 at *
 generalize camOk (cv a b c) (cv d e f) (cn .f32 wd) nx ny = p2 at *
 generalize marOk (cn .f32 near) (cn .f32 most) n = p3 at *
 generalize vfin (cv lx ly lz) = p4 at *
 rw [Bool.and_right_comm] at hUo
 have t1:True:=trivial
 have t2:True:=trivial
 have t3:True:=trivial
 go_enter Tryz.func103,Tryz.ntmps103
 go_upto_region 1 with fail
 generalize hW:w.alloc (.cells #[.slice bp ns.length cap,F1 a,F1 b,F1 c,F1 d,F1 e,F1 f,F1 wd,.int .i64 nx,.int .i64 ny,F1 lx,F1 ly,F1 lz,F1 near,F1 most,.int .i64 n] 86) = W1 at *
 have W1b:Below w.heap.size w W1:=by subst hW;exact (by repeat' (first | exact Below.refl _ _ | exact Nat.le_refl _ | refine below_drewN ?_ _ | refine Below.alloc ?_ (by simp <;> omega) _ | refine Below.setCell ?_ (by simp <;> omega) _ | refine below_step ?_ (by assumption)))
 have hkept:Kept [(⟨w.heap.size,0,none⟩,.slice bp ns.length cap),(⟨w.heap.size,1,none⟩,F1 a),(⟨w.heap.size,2,none⟩,F1 b),(⟨w.heap.size,3,none⟩,F1 c),(⟨w.heap.size,4,none⟩,F1 d),(⟨w.heap.size,5,none⟩,F1 e),(⟨w.heap.size,6,none⟩,F1 f),(⟨w.heap.size,7,none⟩,F1 wd),(⟨w.heap.size,8,none⟩,.int .i64 nx),(⟨w.heap.size,9,none⟩,.int .i64 ny),(⟨w.heap.size,10,none⟩,F1 lx),(⟨w.heap.size,11,none⟩,F1 ly),(⟨w.heap.size,12,none⟩,F1 lz),(⟨w.heap.size,13,none⟩,F1 near),(⟨w.heap.size,14,none⟩,F1 most),(⟨w.heap.size,15,none⟩,.int .i64 n)] [] W1:=by
  subst hW;simp only [Kept,ka,kb,kc,kd,ke,kfa,kga];(first | (go_simp;done) | (simp [World.cell?,World.frozen?,World.alloc,Array.getElem?_push];done))
 clear hW
 have hK:=hkept;simp only [Kept,ka,kb,kc,kd,ke,kfa,kga] at hK
 rcases ff4 p1 p2 p3 p4 with h1 | ⟨h1,h2⟩ | ⟨h1,h2,h3⟩ | ⟨h1,h2,h3,h4⟩ | ⟨h1,h2,h3,h4⟩
 all_goals
  (try subst h1);(try subst h2);(try subst h3);(try subst h4)
  simp only [Bool.and_true,Bool.and_false,Bool.false_and,Bool.true_and] at hUo
  subst hUo
  go_wp2_with (first
   | (clear t1;go_at_call 65;refine (hva _ W1b).mono ?_;rintro _ w4 ⟨rfl,hb1⟩;have W1b:=below_step W1b hb1;have hkept:=keepT hkept hb1 rfl;clear hK;have hK:=hkept;simp only [Kept,ka,kb,kc,kd,ke,kfa,kga] at hK)
   | (clear t2;go_at_call 170;refine (hca _).mono ?_;rintro _ w4 ⟨rfl,hb1⟩;have W1b:=below_step W1b hb1;have hkept:=keepT hkept hb1 rfl;clear hK;have hK:=hkept;simp only [Kept,ka,kb,kc,kd,ke,kfa,kga] at hK)
   | (clear t3;go_at_call 171;refine (hma _).mono ?_;rintro _ w4 ⟨rfl,hb1⟩;have W1b:=below_step W1b hb1;have hkept:=keepT hkept hb1 rfl;clear hK;have hK:=hkept;simp only [Kept,ka,kb,kc,kd,ke,kfa,kga] at hK)
   | (go_at_call 132;refine (hfi _).mono ?_;rintro _ w4 ⟨rfl,hb1⟩;have W1b:=below_step W1b hb1;have hkept:=keepT hkept hb1 rfl;clear hK;have hK:=hkept;simp only [Kept,ka,kb,kc,kd,ke,kfa,kga] at hK))
  go_ret
  exact ⟨rfl,W1b⟩

set_option maxRecDepth 100000 in
set_option maxHeartbeats 4000000 in
theorem s_scene_any (vb:Nat) (ns:List PN) (hnum:∀ n ∈ ns,n.nums.length < 10000000) (nb no cap a b c d e f wd:Nat) (nx ny:Int) (lx ly lz near most:Nat) (n:Int) (bp:Option Addr) (w:World) (hbp:ns ≠ [] → bp = some ⟨nb,no,none⟩) (hsh:∀ i (h:i < ns.length),NodeIn ns[i] nb (no + i * 4) w) (hlen:ns.length < 10000000) (hkept:Kept [(⟨vb,0,none⟩,.slice bp ns.length cap),(⟨vb,1,none⟩,F1 a),(⟨vb,2,none⟩,F1 b),(⟨vb,3,none⟩,F1 c),(⟨vb,4,none⟩,F1 d),(⟨vb,5,none⟩,F1 e),(⟨vb,6,none⟩,F1 f),(⟨vb,7,none⟩,F1 wd),(⟨vb,8,none⟩,.int .i64 nx),(⟨vb,9,none⟩,.int .i64 ny),(⟨vb,10,none⟩,F1 lx),(⟨vb,11,none⟩,F1 ly),(⟨vb,12,none⟩,F1 lz),(⟨vb,13,none⟩,F1 near),(⟨vb,14,none⟩,F1 most),(⟨vb,15,none⟩,.int .i64 n)] [] w) :
  Calls Tryz.prog 98 #[.pointer (some ⟨vb,0,none⟩)] w (fun e' w' => e' = .returned (.bool (viewOk (validS ns) (cv a b c) (cv d e f) (cn .f32 wd) nx ny (cv lx ly lz) (cn .f32 near) (cn .f32 most) n)) ∧ Below w.heap.size w w'):=by
 obtain ⟨U,hU⟩:∃ U,Hid (viewOk (validS ns) (cv a b c) (cv d e f) (cn .f32 wd) nx ny (cv lx ly lz) (cn .f32 near) (cn .f32 most) n = U):=⟨_,rfl⟩
 rw [hU.out]
 have hUo:=hU.out
 unfold viewOk at hUo
 clear hU
 have hK:=hkept;simp only [Kept,ka,kb,kc,kd,ke,kfa,kga] at hK
 have hva:Calls Tryz.prog 60 #[.pointer (some ⟨vb,0,none⟩)] w (fun e w'' => e = .returned (.bool (validS ns)) ∧ Below w.heap.size w w''):=s_is_any ns hnum vb 0 nb no cap bp w (by simp only [hK]) hbp hsh hlen
 have hc:CamIn a b c d e f wd nx ny vb 1 w:=⟨by simp only [Kept,ka,kb,kc,kd,ke,kfa,kga];simp only [hK,and_self]⟩
 have hm:MarIn near most n vb 13 w:=⟨by simp only [Kept,ka,kb,kc,kd,ke,kfa,kga];simp only [hK,and_self]⟩
 have hca:∀ w',Below w.heap.size w w' → Calls Tryz.prog 159 #[.pointer (some ⟨vb,1,none⟩)] w' (fun e' w'' => e' = .returned (.bool (camOk (cv a b c) (cv d e f) (cn .f32 wd) nx ny)) ∧ Below w'.heap.size w' w''):=fun w' hb => s_cam_any a b c d e f wd nx ny vb 1 w' (hc.keep hb)
 have hma:∀ w',Below w.heap.size w w' → Calls Tryz.prog 160 #[.pointer (some ⟨vb,13,none⟩)] w' (fun e' w'' => e' = .returned (.bool (marOk (cn .f32 near) (cn .f32 most) n)) ∧ Below w'.heap.size w' w''):=fun w' hb => s_mar_any near most n vb 13 w' (hm.keep hb)
 have hfi:∀ w',Calls Tryz.prog 121 #[V3 lx ly lz] w' (fun e' w'' => e' = .returned (.bool (vfin (cv lx ly lz))) ∧ Below w'.heap.size w' w''):=fun w' => s_vfin_any lx ly lz w'
 clear hbp hsh hnum hc hm
 generalize validS ns = p1 at *
 generalize camOk (cv a b c) (cv d e f) (cn .f32 wd) nx ny = p2 at *
 generalize marOk (cn .f32 near) (cn .f32 most) n = p4 at *
 generalize vfin (cv lx ly lz) = p3 at *
 have t1:True:=trivial
 have t2:True:=trivial
 have t3:True:=trivial
 have W1b:=Below.refl w.heap.size w
 rcases ff4 p1 p2 p3 p4 with h1 | ⟨h1,h2⟩ | ⟨h1,h2,h3⟩ | ⟨h1,h2,h3,h4⟩ | ⟨h1,h2,h3,h4⟩
 all_goals
  (try subst h1);(try subst h2);(try subst h3);(try subst h4)
  simp only [Bool.and_true,Bool.and_false,Bool.false_and,Bool.true_and] at hUo
  subst hUo
  go_enter Tryz.func98,Tryz.ntmps98
  go_wp2_with (first
   | (clear t1;go_at_call 60;refine hva.mono ?_;rintro _ w4 ⟨rfl,hb1⟩;have W1b:=below_step W1b hb1;have hkept:=keepT hkept hb1 rfl;clear hK;have hK:=hkept;simp only [Kept,ka,kb,kc,kd,ke,kfa,kga] at hK)
   | (clear t2;go_at_call 159;refine (hca _ W1b).mono ?_;rintro _ w4 ⟨rfl,hb1⟩;have W1b:=below_step W1b hb1;have hkept:=keepT hkept hb1 rfl;clear hK;have hK:=hkept;simp only [Kept,ka,kb,kc,kd,ke,kfa,kga] at hK)
   | (clear t3;go_at_call 121;refine (hfi _).mono ?_;rintro _ w4 ⟨rfl,hb1⟩;have W1b:=below_step W1b hb1;have hkept:=keepT hkept hb1 rfl;clear hK;have hK:=hkept;simp only [Kept,ka,kb,kc,kd,ke,kfa,kga] at hK)
   | (go_at_call 160;refine (hma _ W1b).mono ?_;rintro _ w4 ⟨rfl,hb1⟩;have W1b:=below_step W1b hb1;have hkept:=keepT hkept hb1 rfl;clear hK;have hK:=hkept;simp only [Kept,ka,kb,kc,kd,ke,kfa,kga] at hK))
  go_ret
  exact ⟨rfl,W1b⟩

/-- A pixel that a camera has. -/
def pixOk (nx ny x y:Int):Bool:=(decide (0 ≤ x) && decide (x ≤ nx - 1)) && (decide (0 ≤ y) && decide (y ≤ ny - 1))
theorem cam_sizes {f t:Nat × Nat × Nat} {wd:Nat} {nx ny:Int} (h:camOk f t wd nx ny = true):(1 ≤ nx ∧ nx ≤ 12) ∧ 1 ≤ ny ∧ ny ≤ 12:=by
 unfold camOk at h
 simp only [Bool.and_eq_true,decide_eq_true_eq] at h
 exact h.1.1.1.1.1

end Go.Proofs.YtbiacfkiakddiaaGreat

namespace Go.Proofs.YtbiacfkiakddiaaGreat
open Go.RowKit Go.Fl
theorem shade_same {ns:List PN} (hv:validF ns = true) {near most:Nat} {n:Int} (hm:marOk near most n = true) (f W l:Nat × Nat × Nat) (m:Nat) :
  shadeF (atS ns) capS (fun F T mo => marchGs (atS ns) F T (slopeF ns) near mo m 1 0) f W l near most = shadeF (topF ns) capF (fun F T mo => marchGo (topF ns) F T (slopeF ns) near mo m 1 0) f W l near most:=by
 obtain ⟨hn,hmo⟩:=mar_parts hm
 have hD:∀ q q',Zv q q' → Zw .f32 (topF ns q) (atS ns q'):=fun q q' h => top_zv (tree_of hv) h
 have hG:∀ F T,marchGs (atS ns) F T (slopeF ns) near most m 1 0 = marchGo (topF ns) F T (slopeF ns) near most m 1 0:=fun F T => march_zv hD (Zv.refl F) (Zv.refl T) (slopeF ns) hn hmo (Zw.refl _ most) m 1 0
 unfold shadeF
 simp only [hG]
 by_cases hr:rayOk f W = true
 ·rw [if_pos hr,if_pos hr]
  by_cases h1:(marchGo (topF ns) f W (slopeF ns) near most m 1 0).1 = 1
  ·rw [if_pos h1,if_pos h1]
   generalize onF f W (marchGo (topF ns) f W (slopeF ns) near most m 1 0).2.2 = p
   have hz:=norm_zv (fun q => hD q q (Zv.refl q)) p near
   unfold shadeP
   rw [shadow_zv hD (Zv.refl p) hz l (slopeF ns) hn hmo m,amball_zv hD (Zv.refl p) hz,lit_zv hz]
  ·rw [if_neg h1,if_neg h1]
 ·rw [if_neg hr,if_neg hr]

theorem view_parts {v:Bool} {f t:Nat × Nat × Nat} {wd:Nat} {nx ny:Int} {l:Nat × Nat × Nat} {near most:Nat} {n:Int} (h:viewOk v f t wd nx ny l near most n = true):v = true ∧ camOk f t wd nx ny = true ∧ marOk near most n = true:=by
 unfold viewOk at h
 simp only [Bool.and_eq_true] at h
 exact ⟨h.1.1.1,h.1.1.2,h.2⟩
theorem mar_steps {near most:Nat} {n:Int} (h:marOk near most n = true):1 ≤ n ∧ n ≤ 64:=by
 unfold marOk at h
 simp only [Bool.and_eq_true,decide_eq_true_eq] at h
 exact h.2


end Go.Proofs.YtbiacfkiakddiaaGreat

namespace Go.Proofs.YtbiacfkiakddiaaGreat
open Go.RowKit Go.Fl
inductive PhiVw (ns:List PN) (a b c d e f wd:Nat) (nx ny:Int) (lx ly lz near most:Nat) (st:Int):FuncId → Array Value → Value → Prop
 | view (args:Array Value) (G:Nat):PhiVw ns a b c d e f wd nx ny lx ly lz near most st 45 args (.agg #[.slice (some ⟨G,0,none⟩) ns.length ns.length,F1 a,F1 b,F1 c,F1 d,F1 e,F1 f,F1 wd,.int .i64 nx,.int .i64 ny,F1 lx,F1 ly,F1 lz,F1 near,F1 most,.int .i64 st])
 | eqv (args:Array Value):PhiVw ns a b c d e f wd nx ny lx ly lz near most st 48 args (.bool true)
/-- A word on a view of one's own. -/
def VwN (ns:List PN) (v:Value) (w:World):Prop:=∀ G a b c d e f wd nx ny lx ly lz near most st,v = .agg #[.slice (some ⟨G,0,none⟩) ns.length ns.length,F1 a,F1 b,F1 c,F1 d,F1 e,F1 f,F1 wd,.int .i64 nx,.int .i64 ny,F1 lx,F1 ly,F1 lz,F1 near,F1 most,.int .i64 st] → ∀ i (h:i < ns.length),NodeNew ns[i] G (0 + i * 4) w
theorem VwN.keep {ns:List PN} (v:Value) (w w':World) (h:VwN ns v w) (hb:Below w.heap.size w w'):VwN ns v w':=fun G a b c d e f wd nx ny lx ly lz near most st hv i hi => (h G a b c d e f wd nx ny lx ly lz near most st hv i hi).keep hb
theorem view_inj {S S':Value} {A B:List Value} (h:Value.agg ⟨S :: A⟩ = .agg ⟨S' :: B⟩):S = S':=by
 injection h with h
 injection h with h
 injection h
theorem VwN.mk {ns:List PN} {G a b c d e f wd:Nat} {nx ny:Int} {lx ly lz near most:Nat} {st:Int} {w:World} (h:∀ i (h:i < ns.length),NodeNew ns[i] G (0 + i * 4) w):VwN ns (.agg #[.slice (some ⟨G,0,none⟩) ns.length ns.length,F1 a,F1 b,F1 c,F1 d,F1 e,F1 f,F1 wd,.int .i64 nx,.int .i64 ny,F1 lx,F1 ly,F1 lz,F1 near,F1 most,.int .i64 st]) w:=by
 intro G' a' b' c' d' e' f' wd' nx' ny' lx' ly' lz' near' most' n' hv
 have h1:=view_inj hv
 injection h1 with h1
 injection h1 with h1
 injection h1 with h1
 subst h1
 exact h


end Go.Proofs.YtbiacfkiakddiaaGreat
