/-
 Lemmas: D10.
-/
import Derived.Test.YtbiacfkiakddiaaGreatOca
import Derived.Test.YtbiacfkiakddiaaGreatOcb
set_option linter.unusedVariables false
set_option linter.unusedSimpArgs false
namespace Go.Proofs.YtbiacfkiakddiaaGreat
open Go.RowKit Go.Fl
/-- The shade of a ray. D: distance,L: cap,G: march. -/
def shadeF (D:Nat × Nat × Nat → Nat) (L:Nat → Nat) (G:(Nat × Nat × Nat) → (Nat × Nat × Nat) → Nat → Nat × Nat × Nat) (f W l:Nat × Nat × Nat) (near most:Nat):Nat :=
 if rayOk f W then
  if (G f W most).1 = 1 then
   shadeP (onF f W (G f W most).2.2) (normF D (onF f W (G f W most).2.2) near) l (shadow G (onF f W (G f W most).2.2) (normF D (onF f W (G f W most).2.2) near) l near most) (ambAll D L (onF f W (G f W most).2.2) (normF D (onF f W (G f W most).2.2) near) (B .mul (cn .f32 1073741824) near) 4)
  else 0
 else 0
theorem shade_no {D L G f W l near most} (h:rayOk f W = false):shadeF D L G f W l near most = 0:=by unfold shadeF;rw [h];rfl
theorem shade_miss {D L G f W l near most} (h:(G f W most).1 ≠ 1):shadeF D L G f W l near most = 0:=by
 by_cases hr:rayOk f W = true
 ·unfold shadeF;rw [if_pos hr,if_neg h]
 ·unfold shadeF;rw [if_neg hr]
theorem shade_hit {D L G f W l near most H p n} (h:rayOk f W = true) (hH:G f W most = H) (h1:H.1 = 1) (hp:p = onF f W H.2.2) (hn:n = normF D p near):shadeF D L G f W l near most = shadeP p n l (shadow G p n l near most) (ambAll D L p n (B .mul (cn .f32 1073741824) near) 4):=by
 subst hp;subst hn;subst hH;unfold shadeF;rw [if_pos h,if_pos h1]

/-- A view in memory. -/
structure ViewIn (ns:List PN) (vb nb no cap a b c d e f wd:Nat) (nx ny:Int) (lx ly lz near most m:Nat) (w:World):Prop where
 kept:Kept [(⟨vb,0,none⟩,.slice (some ⟨nb,no,none⟩) ns.length cap),(⟨vb,1,none⟩,F1 a),(⟨vb,2,none⟩,F1 b),(⟨vb,3,none⟩,F1 c),(⟨vb,4,none⟩,F1 d),(⟨vb,5,none⟩,F1 e),(⟨vb,6,none⟩,F1 f),(⟨vb,7,none⟩,F1 wd),(⟨vb,8,none⟩,.int .i64 nx),(⟨vb,9,none⟩,.int .i64 ny),(⟨vb,10,none⟩,F1 lx),(⟨vb,11,none⟩,F1 ly),(⟨vb,12,none⟩,F1 lz),(⟨vb,13,none⟩,F1 near),(⟨vb,14,none⟩,F1 most),(⟨vb,15,none⟩,.int .i64 (m:Int))] [] w
 node:∀ i (h:i < ns.length),NodeIn ns[i] nb (no + i * 4) w
theorem ViewIn.keep {ns:List PN} {vb nb no cap a b c d e f wd:Nat} {nx ny:Int} {lx ly lz near most m:Nat} {w w':World} (h:ViewIn ns vb nb no cap a b c d e f wd nx ny lx ly lz near most m w) (hb:Below w.heap.size w w'):ViewIn ns vb nb no cap a b c d e f wd nx ny lx ly lz near most m w':=⟨Go.Fl.keep h.kept hb,fun i hi => (h.node i hi).keep hb⟩
theorem ViewIn.shape {ns:List PN} {vb nb no cap a b c d e f wd:Nat} {nx ny:Int} {lx ly lz near most m:Nat} {w:World} (h:ViewIn ns vb nb no cap a b c d e f wd nx ny lx ly lz near most m w):ShapeIn ns vb 0 nb no cap w:=⟨h.kept.1 (⟨vb,0,none⟩,.slice (some ⟨nb,no,none⟩) ns.length cap) (by simp),h.node⟩
theorem ViewIn.cam {ns:List PN} {vb nb no cap a b c d e f wd:Nat} {nx ny:Int} {lx ly lz near most m:Nat} {w:World} (h:ViewIn ns vb nb no cap a b c d e f wd nx ny lx ly lz near most m w):CamIn a b c d e f wd nx ny vb 1 w:=⟨by
 have hK:=h.kept
 simp only [Kept,ka,kb,kc,kd,ke,kfa,kga] at hK
 simp only [Kept,ka,kb,kc,kd,ke,kfa,kga]
 simp only [hK,and_self]⟩

theorem ViewIn.march {ns:List PN} {vb nb no cap a b c d e f wd:Nat} {nx ny:Int} {lx ly lz near most m:Nat} {w:World} (h:ViewIn ns vb nb no cap a b c d e f wd nx ny lx ly lz near most m w):MarIn near most (m:Int) vb 13 w:=⟨by
 have hK:=h.kept
 simp only [Kept,ka,kb,kc,kd,ke,kfa,kga] at hK
 simp only [Kept,ka,kb,kc,kd,ke,kfa,kga]
 simp only [hK,and_self]⟩

/-- One call whose answer has a property. -/
inductive PhiDn (fo:FuncId) (P:Value → Prop):FuncId → Array Value → Value → Prop
 | mk (args:Array Value) (v:Value) (h:P v):PhiDn fo P fo args v

inductive PhiLi (fl fu fi:FuncId):FuncId → Array Value → Value → Prop
 | less (x y z x' y' z' a b c:Nat) (h:cv a b c = lessV (cv x y z) (cv x' y' z')):PhiLi fl fu fi fl #[V3 x y z,V3 x' y' z'] (V3 a b c)
 | unit (x y z a b c:Nat) (h:cv a b c = unitF (cv x y z)):PhiLi fl fu fi fu #[V3 x y z] (V3 a b c)
 | inner (x y z x' y' z' r:Nat) (h:cn .f32 r = inV (cv x y z) (cv x' y' z')):PhiLi fl fu fi fi #[V3 x y z,V3 x' y' z'] (F1 r)


set_option maxRecDepth 100000 in
set_option maxHeartbeats 8000000 in
theorem shade_any (ns:List PN) (hval:validF ns = true) (hnum:∀ n ∈ ns,n.nums.length < 10000000) (vb nb no cap a b c d e f wd:Nat) (nx ny:Int) (lx ly lz near most m:Nat) (hm:m ≤ 64) (hma:marOk (cn .f32 near) (cn .f32 most) (m:Int) = true) (x y:Int) (w:World)
  (hV:ViewIn ns vb nb no cap a b c d e f wd nx ny lx ly lz near most m w) :
  Calls Tryz.prog 105 #[.pointer (some ⟨vb,0,none⟩),.int .i64 x,.int .i64 y] w
   (Ret .f32 (shadeF (topF ns) capF (fun F T mo => marchGo (topF ns) F T (slopeF ns) (cn .f32 near) mo m 1 0) (cv a b c) (wayP (cv a b c) (cv d e f) (cn .f32 wd) nx ny x y) (cv lx ly lz) (cn .f32 near) (cn .f32 most)) w):=by
 obtain ⟨W,hW⟩:∃ W,Hid (W = wayP (cv a b c) (cv d e f) (cn .f32 wd) nx ny x y):=⟨_,rfl⟩
 rw [← hW.out]
 obtain ⟨R,hR⟩:∃ R,Hid (R = shadeF (topF ns) capF (fun F T mo => marchGo (topF ns) F T (slopeF ns) (cn .f32 near) mo m 1 0) (cv a b c) W (cv lx ly lz) (cn .f32 near) (cn .f32 most)):=⟨_,rfl⟩
 rw [← hR.out]
 obtain ⟨hl,hok⟩:=valid_ok hval
 have hray:∀ w',Below w.heap.size w w' → Calls Tryz.prog 172 #[.pointer (some ⟨vb,1,none⟩),.int .i64 x,.int .i64 y] w' (RetRay a b c W w'):=fun w' hb => by rw [hW.out];exact cray_any a b c d e f wd nx ny x y vb 1 w' (hV.keep hb).cam
 have hkept:=hV.kept
 have hVH:=Lib.hid hV
 have hnumH:=Lib.hid hnum
 clear hV hnum
 have hK:=hkept;simp only [Kept,ka,kb,kc,kd,ke,kfa,kga] at hK
 go_enter Tryz.func105,Tryz.ntmps105
 go_upto_region 1 with fail
 go_cut [7,8] from 16 to 24 (fun s7 s8 wx => ∃ (g x1 y1 z1:Nat),s7 = .pointer (some ⟨g,0,none⟩) ∧ s8 = .pointer (some ⟨vb,0,none⟩) ∧ Kept [(⟨g,0,none⟩,F1 a),(⟨g,1,none⟩,F1 b),(⟨g,2,none⟩,F1 c),(⟨g,3,none⟩,F1 x1),(⟨g,4,none⟩,F1 y1),(⟨g,5,none⟩,F1 z1)] [] wx ∧ cv x1 y1 z1 = W ∧ Below w.heap.size w wx)
 case first =>
  go_region_with (go_at_call 172;(refine (hray _ ?hs1).mono ?_;case hs1 => exact (by repeat' (first | exact Below.refl _ _ | exact Nat.le_refl _ | refine Below.drew ?_ | refine below_drewN ?_ _ | refine Below.alloc ?_ (by simp <;> omega) _ | refine Below.setCell ?_ (by simp <;> omega) _ | refine below_step ?_ (by assumption))));rintro _ w2 ⟨x1,y1,z1,rfl,e1,hb1⟩;have HL:=lift hb1;have HF:=liftF hb1)
  ·have hB:Below w.heap.size w w2:=below_step (Below.refl w.heap.size w).drew hb1
   clear HL HF
   go_wp2_with fail
   go_meet
   case rel => exact ⟨_,x1,y1,z1,rfl,rfl,by simp only [Kept,ka,kb,kc,kd,ke,kfa,kga];simp,e1,hB.alloc hB.size _⟩
  ·have hg:w2.heap[w.heap.size]? = some (.cells #[F1 0,F1 0,F1 0,F1 0,F1 0,F1 0] 225 (0,0)):=by
    rw [hb1.block _ (show w.heap.size < (w.alloc (.cells #[F1 0,F1 0,F1 0,F1 0,F1 0,F1 0] 225)).heap.size by simp)]
    exact heap_alloc_at w _
   have h6:=set6 hg (Nat.le_refl _) (F1 a) (F1 b) (F1 c) (F1 x1) (F1 y1) (F1 z1)
   have hB:Below w.heap.size w w2:=below_step (((Below.refl _ _).alloc (Nat.le_refl _) _).drew) hb1
   clear HL HF hg
   go_wp2_with fail
   go_meet
   case rel => exact ⟨_,x1,y1,z1,rfl,rfl,⟨(kept6 h6.1).1,fun _ h => absurd h (by simp)⟩,e1,hB.trans h6.2⟩
 case rest =>
  obtain ⟨gr,x1,y1,z1,rfl,rfl,hkr,e1,hb1⟩:=hcut
  rename World => w3
  have hkept:=kept_app (keep hkept hb1) hkr
  have W1b:=hb1
  clear hkr hb1 hray hK
  have hK:=hkept;simp only [Kept,ka,kb,kc,kd,ke,kfa,kga] at hK
  have hvr:∀ w',Calls Tryz.prog 173 #[.agg #[F1 a,F1 b,F1 c,F1 x1,F1 y1,F1 z1]] w' (fun e' w'' => e' = .returned (.bool (rayOk (cv a b c) W)) ∧ Below w'.heap.size w' w''):=fun w' => by rw [← e1];exact ray_any a b c x1 y1 z1 w'
  cases hr:rayOk (cv a b c) W
  ·have h0:R = 0:=by rw [hR.out,shade_no hr]
   rw [hr] at hvr
   clear hR
   go_wp2_with (go_at_call 173;refine (hvr _).mono ?_;rintro _ w4 ⟨rfl,hb1⟩;have W1b:=below_step W1b hb1)
   go_ret
   exact ⟨0,rfl,by rw [h0,cn_zero],W1b⟩
  rw [hr] at hvr
  go_upto_region 4 with (go_at_call 173;refine (hvr _).mono ?_;rintro _ w4 ⟨rfl,hb1⟩;have W1b:=below_step W1b hb1;have hkept:=keepT hkept hb1 rfl;clear hK;have hK:=hkept;simp only [Kept,ka,kb,kc,kd,ke,kfa,kga] at hK)
  clear hvr hK
  obtain ⟨H,hH⟩:∃ H,Hid (marchGo (topF ns) (cv a b c) W (slopeF ns) (cn .f32 near) (cn .f32 most) m 1 0 = H):=⟨_,rfl⟩
  have hmar:∀ w',Below w.heap.size w w' → Calls Tryz.prog 174 #[.pointer (some ⟨vb,0,none⟩),.agg #[F1 a,F1 b,F1 c,F1 x1,F1 y1,F1 z1],.agg #[F1 near,F1 most,.int .i64 (m:Int)]] w' (RetHit (cv a b c) W H w'):=fun w' hb => by
   rw [← hH.out,← e1]
   exact march_any ns hok hl vb 0 nb no cap a b c x1 y1 z1 near most m hm w' (hVH.out.keep hb).shape
  have hkW:=hkept
  refine Qr.wp_made 8 7 9 #[.int .i64 0,.int .i64 0,F1 0,F1 0,F1 0,F1 0] 230 (by kernel_rfl) (by kernel_rfl) (PhiDn 174 (fun v => ∃ far x y z,v = HitV H.1 H.2.1 far x y z ∧ cn .f32 far = H.2.2 ∧ cv x y z = onF (cv a b c) W H.2.2)) rfl (by kernel_rfl) ⟨_,rfl,rfl,fun a w => by go_simp⟩ (by kernel_rfl) ?_
  repeat (first
   | (refine Qr.walk_plain rfl fun K hK => ?_;apply Qr.one_det;(focus (intro w' hw';have HK:=keep hkept hw';simp only [Kept,ka,kb,kc,kd,ke,kfa,kga] at HK;go_simp;first | done | rfl));go_simp;refine hK _ ?_;clear hK K)
   | (refine Qr.walk_plain rfl fun K hK => ?_;refine Qr.one_rel (fun v => ∃ g,v = .pointer (some ⟨g,0,none⟩)) (fun w' hw' => ⟨.pointer (some ⟨w'.heap.size,0,none⟩),_,by go_simp;rfl,⟨_,rfl⟩,hw'.alloc hw'.size _,(Below.refl _ _).alloc (Nat.le_refl _) _⟩) (fun v hv => ?_);obtain ⟨g,rfl⟩:=hv;go_simp;refine hK _ ?_;clear hK K)
   | (refine Qr.walk_plain rfl fun K hK => ?_;apply Qr.one_call;(focus (intro w' hw';go_simp;first | done | exact ⟨rfl,rfl⟩));(focus (intro w' hw'; go_at_call 174;refine (hmar _ (below_step W1b hw')).mono ?_;rintro _ w6 ⟨far,x,y,z,rfl,h1,h2,hb1⟩;exact ⟨_,rfl,.mk _ _ ⟨far,x,y,z,rfl,h1,h2⟩,below_step hw' (by assumption),by assumption⟩));intro v hv;cases hv; rename_i hP;obtain ⟨far,hx,hy,hz,rfl,k1,k2⟩:=hP;go_simp;refine hK _ ?_;clear hK K))
  refine Qr.walk_nil fun w6 hw6 hmade => ?_
  obtain ⟨g3,hg3,hgw,hgc⟩:=hmade _ rfl
  injection hg3 with hg3
  injection hg3 with hg3
  subst hg3
  obtain ⟨⟨p0,p1,p2,p3,p4,p5⟩,q0,q1,q2,q3,q4,q5⟩:=cells6 hgc
  go_upto_region 5 with fail
  have h6:=set6 hgc (Nat.le_refl _) (.int .i64 (H.1:Int)) (.int .i64 (H.2.1:Int)) (F1 far) (F1 hx) (F1 hy) (F1 hz)
  have hbw:=hw6.trans (h6.2.mono hgw)
  clear p0 p1 p2 p3 p4 p5 q0 q1 q2 q3 q4 q5 hgc hw6 hmade
  generalize (((((w6.setCell ⟨g,0,none⟩ (.int .i64 (H.1:Int))).setCell ⟨g,1,none⟩ (.int .i64 (H.2.1:Int))).setCell ⟨g,2,none⟩ (F1 far)).setCell ⟨g,3,none⟩ (F1 hx)).setCell ⟨g,4,none⟩ (F1 hy)).setCell ⟨g,5,none⟩ (F1 hz) = w7 at h6 hbw ⊢
  have hkept:=kept_app (keep hkept hbw) (kept6 h6.1)
  have W1b:=below_step W1b hbw
  clear h6 hbw hgw hmar hkW
  generalize g = gh at *
  have hK:=hkept;simp only [Kept,ka,kb,kc,kd,ke,kfa,kga] at hK
  by_cases h1:H.1 = 1
  case neg =>
   have h0:R = 0:=by rw [hR.out];exact shade_miss (by simp only [hH.out];exact h1)
   have h1b:((H.1:Int) == 1) = false:=by rw [beq_eq_false_iff_ne];omega
   clear hR hH
   go_wp2_with fail
   go_ret
   exact ⟨0,rfl,by first | exact cn_zero _ | rw [h0,cn_zero],W1b⟩
  have h1b:((H.1:Int) == 1) = true:=by rw [beq_iff_eq];omega
  go_upto_region 8 with fail
  have hb8:Below w7.heap.size w7 (w7.alloc (.cells #[F1 hx,F1 hy,F1 hz] 38)):=(Below.refl _ _).alloc (Nat.le_refl _) _
  have hkept:=kept_app (keep hkept hb8) (show Kept [(⟨w7.heap.size,0,none⟩,F1 hx),(⟨w7.heap.size,1,none⟩,F1 hy),(⟨w7.heap.size,2,none⟩,F1 hz)] [] (w7.alloc (.cells #[F1 hx,F1 hy,F1 hz] 38)) by simp only [Kept,ka,kb,kc,kd,ke,kfa,kga];simp)
  have W1b:=below_step W1b hb8
  generalize w7.alloc (.cells #[F1 hx,F1 hy,F1 hz] 38) = w8 at *
  generalize w7.heap.size = gp at *
  clear hb8 hK
  obtain ⟨P,hP⟩:∃ P,Hid (P = cv hx hy hz):=⟨_,rfl⟩
  obtain ⟨n,hn⟩:∃ n,Hid (n = normF (topF ns) P (cn .f32 near)):=⟨_,rfl⟩
  have hnor:∀ w',Below w.heap.size w w' → Calls Tryz.prog 175 #[.pointer (some ⟨vb,0,none⟩),V3 hx hy hz,F1 near] w' (RetVv n w'):=fun w' hb => by rw [hn.out,hP.out];exact normal_any ns hok hl vb 0 nb no cap hx hy hz near w' (hVH.out.keep hb).shape
  have hRR:Hid (R = shadeP P n (cv lx ly lz) (shadow (fun F T mo => marchGo (topF ns) F T (slopeF ns) (cn .f32 near) mo m 1 0) P n (cv lx ly lz) (cn .f32 near) (cn .f32 most)) (ambAll (topF ns) capF P n (B .mul (cn .f32 1073741824) (cn .f32 near)) 4)):=by
   unfold Hid
   rw [hR.out]
   exact shade_hit hr hH.out h1 (hP.out.trans k2) hn.out
  clear hR hH k1 k2
  refine Qr.wp_made 9 8 11 #[F1 0,F1 0,F1 0] 38 (by kernel_rfl) (by kernel_rfl) (PhiDn 175 (fun v => ∃ x y z,v = V3 x y z ∧ cv x y z = n)) rfl (by kernel_rfl) ⟨_,rfl,rfl,fun a w => by go_simp⟩ (by kernel_rfl) ?_
  repeat (first
   | (refine Qr.walk_plain rfl fun K hK => ?_;apply Qr.one_det;(focus (intro w' hw';have HK:=keep hkept hw';simp only [Kept,ka,kb,kc,kd,ke,kfa,kga] at HK;go_simp;first | done | rfl));go_simp;refine hK _ ?_;clear hK K)
   | (refine Qr.walk_plain rfl fun K hK => ?_;refine Qr.one_rel (fun v => ∃ g,v = .pointer (some ⟨g,0,none⟩)) (fun w' hw' => ⟨.pointer (some ⟨w'.heap.size,0,none⟩),_,by go_simp;rfl,⟨_,rfl⟩,hw'.alloc hw'.size _,(Below.refl _ _).alloc (Nat.le_refl _) _⟩) (fun v hv => ?_);obtain ⟨g,rfl⟩:=hv;go_simp;refine hK _ ?_;clear hK K)
   | (refine Qr.walk_plain rfl fun K hK => ?_;apply Qr.one_call;(focus (intro w' hw';go_simp;first | done | exact ⟨rfl,rfl⟩));(focus (intro w' hw'; go_at_call 175;refine (hnor _ (below_step W1b hw')).mono ?_;rintro _ w6 ⟨x,y,z,rfl,h1,hb1⟩;exact ⟨_,rfl,.mk _ _ ⟨x,y,z,rfl,h1⟩,below_step hw' (by assumption),by assumption⟩));intro v hv;cases hv; rename_i hQ;obtain ⟨n1,n2,n3,rfl,k1⟩:=hQ;go_simp;refine hK _ ?_;clear hK K))
  refine Qr.walk_nil fun w9 hw9 hmade => ?_
  obtain ⟨g3,hg3,hgw,hgc⟩:=hmade _ rfl
  injection hg3 with hg3
  injection hg3 with hg3
  subst hg3
  obtain ⟨hc0,hc1,hc2,hf0,hf1,hf2⟩:=cells3 hgc
  go_upto_region 9 with fail
  have hset:=set3 hgc (F1 n1) (F1 n2) (F1 n3)
  have hbw:=hw9.trans (hset.2.mono hgw)
  clear hc0 hc1 hc2 hf0 hf1 hf2 hgc hw9 hmade
  generalize ((w9.setCell ⟨g,0,none⟩ (F1 n1)).setCell ⟨g,1,none⟩ (F1 n2)).setCell ⟨g,2,none⟩ (F1 n3) = w10 at hset hbw ⊢
  have hkept:=kept_app (keep hkept hbw) (kept3 hset.1)
  have W1b:=below_step W1b hbw
  clear hset hbw hgw hnor
  generalize g = gn at *
  refine Qr.wp_below_all (by kernel_rfl) (by kernel_rfl) (PhiLi 178 177 176) ?_
  repeat (first
   | (refine Qr.walk_plain rfl fun K hK => ?_;apply Qr.one_det;(focus (intro w' hw';have HK:=keep hkept hw';simp only [Kept,ka,kb,kc,kd,ke,kfa,kga] at HK;go_simp;first | done | rfl));go_simp;refine hK _ ?_;clear hK K)
   | (refine Qr.walk_plain rfl fun K hK => ?_;apply Qr.one_call;(focus (intro w' hw';go_simp;first | done | exact ⟨rfl,rfl⟩));(focus (intro w' hw'; go_at_call 178;refine (less_any _ _ _ _ _ _ _).mono ?_;rintro _ w3 ⟨r1,r2,r3,rfl,hr1,hr2,hr3,hb1⟩;exact ⟨_,rfl,.less _ _ _ _ _ _ _ _ _ (v3_mk hr1 hr2 hr3),below_step hw' (by assumption),by assumption⟩));intro v hv;cases hv; go_simp;refine hK _ ?_;clear hK K)
   | (refine Qr.walk_plain rfl fun K hK => ?_;apply Qr.one_call;(focus (intro w' hw';go_simp;first | done | exact ⟨rfl,rfl⟩));(focus (intro w' hw'; go_at_call 177;refine (unit_any _ _ _ _).mono ?_;rintro _ w3 ⟨r1,r2,r3,rfl,hr1,hr2,hr3,hb1⟩;exact ⟨_,rfl,.unit _ _ _ _ _ _ (v3_mk hr1 hr2 hr3),below_step hw' (by assumption),by assumption⟩));intro v hv;cases hv; go_simp;refine hK _ ?_;clear hK K)
   | (refine Qr.walk_plain rfl fun K hK => ?_;apply Qr.one_call;(focus (intro w' hw';go_simp;first | done | exact ⟨rfl,rfl⟩));(focus (intro w' hw'; go_at_call 176;refine (inner_any _ _ _ _ _ _ _).mono ?_;rintro _ w3 ⟨r1,rfl,hr1,hb1⟩;exact ⟨_,rfl,.inner _ _ _ _ _ _ _ hr1,below_step hw' (by assumption),by assumption⟩));intro v hv;cases hv; go_simp;refine hK _ ?_;clear hK K))
  rename_i a1 a2 a3 j1 b1 b2 b3 j2 dd j3
  refine Qr.walk_nil fun w11 hw11 => ?_
  have hd:cn .f32 dd = inV n (unitF (lessV (cv lx ly lz) P)):=by rw [j3,j2,j1,k1,hP.out]
  clear j1 j2 j3
  have hkept:=keep hkept hw11
  have W1b:=below_step W1b hw11
  clear hw11
  obtain ⟨sh,hsh⟩:∃ sh,Hid (shadow (fun F T mo => marchGo (topF ns) F T (slopeF ns) (cn .f32 near) mo m 1 0) P n (cv lx ly lz) (cn .f32 near) (cn .f32 most) = sh):=⟨_,rfl⟩
  have hRS:=hRR.out
  rw [hsh.out] at hRS
  have hRR:=Lib.hid hRS
  clear hRS
  have hK:=hkept;simp only [Kept,ka,kb,kc,kd,ke,kfa,kga] at hK
  go_upto_if 59 with fail
  go_cut [12,13,14] from 57 (fun s12 _s13 _s14 wx => ∃ d1,s12 = F1 d1 ∧ cn .f32 d1 = litF P n (cv lx ly lz) sh ∧ Below w11.heap.size w11 wx)
  case first =>
   cases hg:(FloatKind.f32.format.order dd 0 == some .gt)
   ·have hl0:litF P n (cv lx ly lz) sh = 0:=by unfold litF;rw [← hd,gtk_of hg];rfl
    go_wp2_with fail
    go_meet
    case rel => exact ⟨0,rfl,by rw [hl0,cn_zero],Below.refl _ _⟩
   ·have hl1:litF P n (cv lx ly lz) sh = if !(sh.2 && sh.1) then cn .f32 dd else 0:=by unfold litF;rw [← hd,gtk_of hg];rfl
    have hins:∀ w',Below w.heap.size w w' → Calls Tryz.prog 179 #[.agg #[.slice (some ⟨nb,no,none⟩) ns.length cap],V3 hx hy hz,V3 n1 n2 n3,V3 lx ly lz,.agg #[F1 near,F1 most,.int .i64 (m:Int)]] w' (RetS sh w'):=fun w' hb => by
     have h:=inshadow_any ns hnumH.out nb no cap hx hy hz n1 n2 n3 lx ly lz near most (m:Int) (some ⟨nb,no,none⟩) w' (fun _ => rfl) (hVH.out.keep hb).node (by omega)
     rw [if_pos (by rw [hval,hma];rfl)] at h
     rw [← hsh.out,hP.out,← k1]
     exact h
    go_upto_region 12 with fail
    refine Qr.wp_below_all (by kernel_rfl) (by kernel_rfl) (PhiDn 179 (fun v => v = .tuple #[.bool sh.1,.bool sh.2])) ?_
    repeat (first
     | (refine Qr.walk_plain rfl fun K hK => ?_;apply Qr.one_det;(focus (intro w' hw';have HK:=keep hkept hw';simp only [Kept,ka,kb,kc,kd,ke,kfa,kga] at HK;go_simp;first | done | rfl));go_simp;refine hK _ ?_;clear hK K)
     | (refine Qr.walk_plain rfl fun K hK => ?_;apply Qr.one_call;(focus (intro w' hw';go_simp;first | done | exact ⟨rfl,rfl⟩));(focus (intro w' hw'; go_at_call 179;refine (hins _ (below_step W1b hw')).mono ?_;rintro _ w6 ⟨rfl,hb1⟩;exact ⟨_,rfl,.mk _ _ rfl,below_step hw' (by assumption),by assumption⟩));intro v hv;cases hv; rename_i hQ;subst hQ;go_simp;refine hK _ ?_;clear hK K))
    refine Qr.walk_nil fun w12 hw12 => ?_
    cases h2:sh.2 <;> cases h1:sh.1
    all_goals
     rw [h1,h2] at hl1
     simp only [Bool.and_true,Bool.and_false,Bool.not_true,Bool.not_false,Bool.false_eq_true,if_true,if_false] at hl1
     go_wp2_with fail
     go_meet
     case rel => first | exact ⟨0,rfl,by rw [hl1,cn_zero],hw12⟩ | exact ⟨dd,rfl,hl1.symm,hw12⟩
  case rest =>
   obtain ⟨d1,rfl,hd1,hb1⟩:=hcut
   rename World => w13
   have hkept:=keep hkept hb1
   have W1b:=below_step W1b hb1
   clear hb1 hK hd
   have hamb:∀ r w',cn .f32 r = B .mul (cn .f32 1073741824) (cn .f32 near) → Below w.heap.size w w' → Calls Tryz.prog 180 #[.pointer (some ⟨vb,0,none⟩),V3 hx hy hz,V3 n1 n2 n3,F1 r,.int .i64 4] w' (Ret .f32 (ambAll (topF ns) capF P n (B .mul (cn .f32 1073741824) (cn .f32 near)) 4) w'):=fun r w' hr hb => by
    rw [← hr,hP.out,← k1]
    exact ambient_any ns hok ⟨hl.1,by omega⟩ vb 0 nb no cap hx hy hz n1 n2 n3 r 4 (by omega) w' (hVH.out.keep hb).shape
   go_upto_region 15 with fail
   refine Qr.wp_below_all (by kernel_rfl) (by kernel_rfl) (PhiDn 180 (fun v => ∃ r,v = F1 r ∧ cn .f32 r = ambAll (topF ns) capF P n (B .mul (cn .f32 1073741824) (cn .f32 near)) 4)) ?_
   repeat (first
    | (refine Qr.walk_plain rfl fun K hK => ?_;refine one_bin _ _ _ _ _ rfl _ _ _ rfl rfl rfl (fun r hr => ?_);go_simp;refine hK _ ?_;clear hK K)
    | (refine Qr.walk_plain rfl fun K hK => ?_;apply Qr.one_det;(focus (intro w' hw';have HK:=keep hkept hw';simp only [Kept,ka,kb,kc,kd,ke,kfa,kga] at HK;go_simp;first | done | rfl));go_simp;refine hK _ ?_;clear hK K)
    | (refine Qr.walk_plain rfl fun K hK => ?_;apply Qr.one_call;(focus (intro w' hw';go_simp;first | done | exact ⟨rfl,rfl⟩));(focus (intro w' hw'; go_at_call 180;refine (hamb _ _ (by assumption) (below_step W1b hw')).mono ?_;rintro _ w6 ⟨r1,rfl,hr1,hb1⟩;exact ⟨_,rfl,.mk _ _ ⟨r1,rfl,hr1⟩,below_step hw' (by assumption),by assumption⟩));intro v hv;cases hv; rename_i hQ;obtain ⟨am,rfl,ham⟩:=hQ;go_simp;refine hK _ ?_;clear hK K))
   refine Qr.walk_nil fun w14 hw14 => ?_
   have W1b:=below_step W1b hw14
   clear hw14 hamb hkept
   generalize r = rs at *
   clear hr
   have hfin:∀ r,cn .f32 r = B .add (B .mul (cn .f32 1048576000) (cn .f32 am)) (B .mul (cn .f32 1061158912) (cn .f32 d1)) → cn .f32 r = R:=fun r h => by rw [h,hRR.out,ham,hd1];rfl
   clear hRR ham hd1
   go_wp2_with (refine wp_bin rfl _ _ _ _ _ rfl _ _ _ rfl rfl rfl ?_;intro r n hr)
   go_ret
   exact ⟨_,rfl,hfin _ (by simp only [*]),(by repeat' (first | exact Below.refl _ _ | exact Nat.le_refl _ | refine below_drewN ?_ _ | refine Below.alloc ?_ (by simp <;> omega) _ | refine Below.setCell ?_ (by simp <;> omega) _ | refine below_step ?_ (by assumption)))⟩
end Go.Proofs.YtbiacfkiakddiaaGreat
