/-
 Lemmas: Y16.
-/
import Derived.Test.YtbiacfkiakddiaaGreatObq
import Derived.Test.YtbiacfkiakddiaaGreatObs
set_option linter.unusedVariables false
set_option linter.unusedSimpArgs false
namespace Go.Proofs.YtbiacfkiakddiaaGreat
open Go.RowKit Go.Fl
set_option maxRecDepth 100000 in
set_option maxHeartbeats 4000000 in
theorem s_shadow_any (ns:List PN) (hv:validS ns = true) (hnum:∀ n ∈ ns,n.nums.length < 10000000) (hok:OkAll ns) (hl:1 ≤ ns.length ∧ ns.length ≤ 16) (sb so nb no cap mb mo0 x y z nx ny nz lx ly lz near most:Nat) (m:Nat) (hn:m ≤ 64) (w:World) (hsh:ShapeIn ns sb so nb no cap w) (hma:MarIn near most (m:Int) mb mo0 w) :
  Calls Tryz.prog 168 #[.pointer (some ⟨sb,so,none⟩),V3 x y z,V3 nx ny nz,V3 lx ly lz,.pointer (some ⟨mb,mo0,none⟩)] w
   (RetS (shadow (fun F T mo => marchGs (atS ns) F T (slopeF ns) (cn .f32 near) mo m 1 0) (cn .f32 x,cn .f32 y,cn .f32 z) (cn .f32 nx,cn .f32 ny,cn .f32 nz) (cn .f32 lx,cn .f32 ly,cn .f32 lz) (cn .f32 near) (cn .f32 most)) w):=by
 have hmc:∀ (a b c d e f mo rb ro tb to':Nat) w',Below w.heap.size w w' → RayIn a b c d e f rb ro w' → MarIn near mo (m:Int) tb to' w' → Calls Tryz.prog 163 #[.pointer (some ⟨sb,so,none⟩),.pointer (some ⟨rb,ro,none⟩),.pointer (some ⟨tb,to',none⟩)] w' (RetHit (cn .f32 a,cn .f32 b,cn .f32 c) (cn .f32 d,cn .f32 e,cn .f32 f) (marchGs (atS ns) (cn .f32 a,cn .f32 b,cn .f32 c) (cn .f32 d,cn .f32 e,cn .f32 f) (slopeF ns) (cn .f32 near) (cn .f32 mo) m 1 0) w'):=fun a b c d e f mo rb ro tb to' w' hb hr hm => s_march_any ns hv hnum hok hl sb so nb no cap rb ro tb to' a b c d e f near mo m hn w' (hsh.keep hb) hr hm
 generalize hGo:(fun F T mo => marchGs (atS ns) F T (slopeF ns) (cn .f32 near) mo m 1 0) = Go at *
 have hgo2:∀ F T mo,marchGs (atS ns) F T (slopeF ns) (cn .f32 near) mo m 1 0 = Go F T mo:=fun F T mo => by rw [← hGo]
 simp only [hgo2] at hmc
 clear hgo2 hGo hsh hok hnum hv
 obtain ⟨FF,hFF⟩:∃ FF,Hid (FF = fromF (cn .f32 x,cn .f32 y,cn .f32 z) (cn .f32 nx,cn .f32 ny,cn .f32 nz) (cn .f32 near)):=⟨_,rfl⟩
 obtain ⟨TT,hTT⟩:∃ TT,Hid (TT = wayT (cn .f32 x,cn .f32 y,cn .f32 z) (cn .f32 nx,cn .f32 ny,cn .f32 nz) (cn .f32 lx,cn .f32 ly,cn .f32 lz) (cn .f32 near)):=⟨_,rfl⟩
 obtain ⟨RR,hRR⟩:∃ RR,Hid (shadow Go (cn .f32 x,cn .f32 y,cn .f32 z) (cn .f32 nx,cn .f32 ny,cn .f32 nz) (cn .f32 lx,cn .f32 ly,cn .f32 lz) (cn .f32 near) (cn .f32 most) = RR):=⟨_,rfl⟩
 rw [hRR.out]
 have hml:=hma.lt
 go_enter Tryz.func168,Tryz.ntmps168
 go_upto_region 1 with fail
 generalize hW:((w.alloc (.cells #[F1 x,F1 y,F1 z] 38)).alloc (.cells #[F1 nx,F1 ny,F1 nz] 38)).alloc (.cells #[F1 lx,F1 ly,F1 lz] 38) = W1 at *
 have W1b:Below w.heap.size w W1:=by subst hW;exact (by repeat' (first | exact Below.refl _ _ | exact Nat.le_refl _ | refine below_drewN ?_ _ | refine Below.alloc ?_ (by simp <;> omega) _ | refine Below.setCell ?_ (by simp <;> omega) _ | refine below_step ?_ (by assumption)))
 have hkept:Kept [(⟨w.heap.size,0,none⟩,F1 x),(⟨w.heap.size,1,none⟩,F1 y),(⟨w.heap.size,2,none⟩,F1 z),(⟨w.heap.size + 1,0,none⟩,F1 nx),(⟨w.heap.size + 1,1,none⟩,F1 ny),(⟨w.heap.size + 1,2,none⟩,F1 nz),(⟨w.heap.size + 1 + 1,0,none⟩,F1 lx),(⟨w.heap.size + 1 + 1,1,none⟩,F1 ly),(⟨w.heap.size + 1 + 1,2,none⟩,F1 lz)] [] W1:=by
  subst hW;simp only [Kept,ka,kb,kc,kd,ke,kfa,kga];(first | (go_simp;done) | (simp [World.cell?,World.frozen?,World.alloc,Array.getElem?_push];done))
 clear hW
 have hkept:=kept_app hkept (hma.keep W1b).kept
 clear hma
 have W3b:=W1b
 refine Qr.wp_made 11 10 12 #[F1 0,F1 0,F1 0,F1 0,F1 0,F1 0] 225 (by kernel_rfl) (by kernel_rfl) (PhiO 0 229 228) rfl (by kernel_rfl) ⟨_,rfl,rfl,fun a w => by go_simp⟩ (by kernel_rfl) ?_
 repeat (first
  | (refine Qr.walk_plain rfl fun K hK => ?_;refine one_bin _ _ _ _ _ rfl _ _ _ rfl rfl rfl (fun r hr => ?_);go_simp;refine hK _ ?_;clear hK K)
  | (refine Qr.walk_plain rfl fun K hK => ?_;refine Qr.one_rel (fun v => ∃ g,v = .pointer (some ⟨g,0,none⟩)) (fun w' hw' => ⟨.pointer (some ⟨w'.heap.size,0,none⟩),_,by go_simp;rfl,⟨_,rfl⟩,hw'.alloc hw'.size _,(Below.refl _ _).alloc (Nat.le_refl _) _⟩) (fun v hv => ?_);obtain ⟨g,rfl⟩:=hv;go_simp;refine hK _ ?_;clear hK K)
  | (refine Qr.walk_plain rfl fun K hK => ?_;apply Qr.one_det;(focus (intro w' hw';have HK:=keep hkept hw';simp only [Kept,ka,kb,kc,kd,ke,kfa,kga] at HK;go_simp;first | done | rfl));go_simp;refine hK _ ?_;clear hK K)
  | (refine Qr.walk_plain rfl fun K hK => ?_;apply Qr.one_call;(focus (intro w' hw';go_simp;first | done | exact ⟨rfl,rfl⟩));(focus (intro w' hw'; go_at_call 229;refine (s_scale_any _ _ _ _ _).mono ?_;rintro _ w3 ⟨r1,r2,r3,rfl,hr1,hr2,hr3,hb1⟩;exact ⟨_,rfl,PhiO.scale _ _ _ _ _ _ _ hr1 hr2 hr3,below_step hw' (by assumption),by assumption⟩));intro v hv;cases hv;go_simp;refine hK _ ?_;clear hK K)
  | (refine Qr.walk_plain rfl fun K hK => ?_;apply Qr.one_call;(focus (intro w' hw';go_simp;first | done | exact ⟨rfl,rfl⟩));(focus (intro w' hw'; go_at_call 228;refine (s_add_any _ _ _ _ _ _ _).mono ?_;rintro _ w3 ⟨r1,r2,r3,rfl,hr1,hr2,hr3,hb1⟩;exact ⟨_,rfl,PhiO.add _ _ _ _ _ _ _ _ _ hr1 hr2 hr3,below_step hw' (by assumption),by assumption⟩));intro v hv;cases hv;go_simp;refine hK _ ?_;clear hK K))
 rename_i a1 b1 c1 g1 g2 g3 a2 b2 c2 g4 g5 g6
 refine Qr.walk_nil fun w4 hw4 hmade => ?_
 obtain ⟨g3',hg3,hgw,hgc⟩:=hmade _ rfl
 injection hg3 with hg3
 injection hg3 with hg3
 subst hg3
 have hF:Hid ((cn .f32 a2,cn .f32 b2,cn .f32 c2) = FF):=by
  unfold Hid
  rw [hFF.out,fromF,addV,scaleV,g4,g5,g6,g1,g2,g3,hr]
 clear g1 g2 g3 g4 g5 g6 hr hmade
 obtain ⟨⟨p0,p1,p2,p3,p4,p5⟩,q0,q1,q2,q3,q4,q5⟩:=cells6 hgc
 go_upto_region 2 with fail
 obtain ⟨h6,hb6⟩:=set6 hgc (Nat.le_refl g) (F1 a2) (F1 b2) (F1 c2) (F1 0) (F1 0) (F1 0)
 clear p0 p1 p2 p3 p4 p5 q0 q1 q2 q3 q4 q5 hgc
 have hkept3:=hkept
 have hw5:=hw4.trans (hb6.mono hgw)
 clear hw4 hb6
 generalize (((((w4.setCell ⟨g,0,none⟩ (F1 a2)).setCell ⟨g,1,none⟩ (F1 b2)).setCell ⟨g,2,none⟩ (F1 c2)).setCell ⟨g,3,none⟩ (F1 0)).setCell ⟨g,4,none⟩ (F1 0)).setCell ⟨g,5,none⟩ (F1 0) = w5 at *
 have hkept:=keep hkept hw5
 have W5b:=below_step W3b hw5
 have hw53:=hw5
 clear hw5
 obtain ⟨⟨p0,p1,p2,p3,p4,p5⟩,q0,q1,q2,q3,q4,q5⟩:=cells6 h6
 have hs5:g < w5.heap.size:=(Array.getElem?_eq_some_iff.1 h6).1
 have hg3:w.heap.size ≤ g:=Nat.le_trans W3b.size hgw
 have hgm:g ≠ mb:=by omega
 have hK:=hkept;simp only [Kept,ka,kb,kc,kd,ke,kfa,kga] at hK
 go_upto_region 3 with (go_at_call 167;refine (s_less_any _ _ _ _ _ _ _).mono ?_;rintro _ w6 ⟨t0,t1,t2,rfl,ht0,ht1,ht2,hb1⟩;have HK6:=lift hb1;have HF6:=liftF hb1)
 have h6':w6.heap[g]? = some (.cells #[F1 a2,F1 b2,F1 c2,F1 0,F1 0,F1 0] 225 (0,0)):=by rw [hb1.block g hs5];exact h6
 obtain ⟨h7,hb7⟩:=set6b h6' (Nat.le_refl g) (F1 t0) (F1 t1) (F1 t2)
 have hT:Hid ((cn .f32 t0,cn .f32 t1,cn .f32 t2) = TT):=by
  unfold Hid
  rw [hTT.out,wayT,← hFF.out,← hF.out,lessV,ht0,ht1,ht2]
 have W6b:=below_step W5b hb1
 clear h6 h6' p0 p1 p2 p3 p4 p5 q0 q1 q2 q3 q4 q5 HK6 HF6 hK ht0 ht1 ht2
 have W7b:=W6b.trans (hb7.mono hg3)
 have hkW:=keep hkept3 (((show Below W1.heap.size W1 w5 from hw53).trans (hb1.mono (by omega))).trans (hb7.mono hgw))
 clear hkept hkept3
 have hkept:=kept_app hkW (kept6 h7)
 clear hkW hb7 hb1 W6b W5b hs5
 generalize ((w6.setCell ⟨g,3,none⟩ (F1 t0)).setCell ⟨g,4,none⟩ (F1 t1)).setCell ⟨g,5,none⟩ (F1 t2) = w7 at *
 have hSh:Hid (RR = if rayOk FF TT then (decide ((Go FF TT (lesserF (cn .f32 most) (longF TT.1 TT.2.1 TT.2.2))).1 = 1),true) else (false,false)):=by unfold Hid;rw [← hRR.out,shadow,mostT,← hFF.out,← hTT.out]
 clear hRR hFF hTT
 rw [← hF.out,← hT.out] at hSh
 clear hF hT h7
 have hK:=hkept;simp only [Kept,ka,kb,kc,kd,ke,kfa,kga] at hK
 have hri:RayIn a2 b2 c2 t0 t1 t2 g 0 w7:=⟨by simp only [Kept,ka,kb,kc,kd,ke,kfa,kga];simp [hK]⟩
 cases hray:rayOk (cn .f32 a2,cn .f32 b2,cn .f32 c2) (cn .f32 t0,cn .f32 t1,cn .f32 t2)
 ·have hres:=hSh.out
  rw [hray] at hres
  simp only [Bool.false_eq_true,if_false] at hres
  go_wp2_with (go_at_call 162;refine (s_ray_any _ _ _ _ _ _ _ 0 _ hri).mono ?_;rintro _ w8 ⟨rfl,hb1⟩;have hkept:=keepT hkept hb1 rfl;clear hK;have hK:=hkept;simp only [Kept,ka,kb,kc,kd,ke,kfa,kga] at hK;rw [hray])
  go_ret2
  exact ⟨by rw [hres];rfl,below_step W7b hb1⟩
 ·have hres:=hSh.out
  rw [hray] at hres
  simp only [if_true] at hres
  go_upto_region 6 with (go_at_call 162;refine (s_ray_any _ _ _ _ _ _ _ 0 _ hri).mono ?_;rintro _ w8 ⟨rfl,hb1⟩;have W8b:=below_step W7b hb1;have hkept:=keepT hkept hb1 rfl;clear hK;have hK:=hkept;simp only [Kept,ka,kb,kc,kd,ke,kfa,kga] at hK;rw [hray])
  have hri8:=hri.keep hb1
  have hbA:Below w8.heap.size w8 (w8.alloc (.cells #[F1 near,F1 most,.int .i64 (m:Int)] 84)):=(Below.refl _ _).alloc (Nat.le_refl _) _
  have hriA:=hri8.keep hbA
  have WAb:=below_step W8b hbA
  have hkept:=kept_app (keep hkept hbA) (show Kept [(⟨w8.heap.size,0,none⟩,F1 near),(⟨w8.heap.size,1,none⟩,F1 most),(⟨w8.heap.size,2,none⟩,.int .i64 (m:Int))] [⟨w8.heap.size,1,none⟩] (w8.alloc (.cells #[F1 near,F1 most,.int .i64 (m:Int)] 84)) by simp only [Kept,ka,kb,kc,kd,ke,kfa,kga];simp)
  have hg8:g < w8.heap.size:=hri8.lt
  have hgh:g ≠ w8.heap.size:=by omega
  have hw8s:=W8b.size
  clear hK hb1 W7b hri hri8 hbA W8b
  generalize w8.alloc (.cells #[F1 near,F1 most,.int .i64 (m:Int)] 84) = wA at *
  generalize w8.heap.size = h8 at *
  refine Qr.wp_below_all (by kernel_rfl) (by kernel_rfl) PhiFs ?_
  repeat (first
   | (refine Qr.walk_plain rfl fun K hK => ?_;apply Qr.one_det;(focus (intro w' hw';have HK:=keep hkept hw';simp only [Kept,ka,kb,kc,kd,ke,kfa,kga] at HK;go_simp;first | done | rfl));go_simp;refine hK _ ?_;clear hK K)
   | (refine Qr.walk_plain rfl fun K hK => ?_;apply Qr.one_call;(focus (intro w' hw';go_simp;first | done | exact ⟨rfl,rfl⟩));(focus (intro w' hw'; go_at_call 242;refine (s_long_any _ _ _ _).mono ?_;rintro _ w2 ⟨r1,rfl,hr1,hb1⟩ ;exact ⟨_,rfl,by constructor <;> assumption,below_step hw' (by assumption),by assumption⟩));intro v hv;cases hv;go_simp;refine hK _ ?_;clear hK K))
  rename_i lo hlo
  refine Qr.walk_nil fun w9 hw9 => ?_
  have hkept:=keep hkept hw9
  have W9b:=below_step WAb hw9
  have hri9:=hriA.keep hw9
  clear hriA hSh hw9 WAb
  have hK:=hkept;simp only [Kept,ka,kb,kc,kd,ke,kfa,kga] at hK
  cases hlt:(FloatKind.f32.format.order lo most == some .lt)
  ·have hres:Hid (RR = (decide ((Go (cn .f32 a2,cn .f32 b2,cn .f32 c2) (cn .f32 t0,cn .f32 t1,cn .f32 t2) (cn .f32 most)).1 = 1),true)):=by
    unfold Hid
    rw [hres,lesserF,← hlo,ltk_cn,ltk,hlt]
    rfl
   have hmar:MarIn near most (m:Int) h8 0 w9:=⟨by simp only [Kept,ka,kb,kc,kd,ke,kfa,kga];simp [hK]⟩
   generalize hh:Go (cn .f32 a2,cn .f32 b2,cn .f32 c2) (cn .f32 t0,cn .f32 t1,cn .f32 t2) (cn .f32 most) = hit at hres
   have hm2:=hmc a2 b2 c2 t0 t1 t2 most g 0 h8 0 w9 W9b hri9 hmar
   rw [hh] at hm2
   clear hmc hh hlo
   go_wp2_with (go_at_call 163;refine hm2.mono ?_;rintro _ w10 ⟨far,px,py,pz,rfl,_,_,hb1⟩;have hkept:=keepT hkept hb1 rfl;clear hK;have hK:=hkept;simp only [Kept,ka,kb,kc,kd,ke,kfa,kga] at hK)
   go_ret2
   exact ⟨by rw [hres.out];exact congrArg (fun b => Ending.returned (.tuple #[.bool b,.bool true])) (decide_eq_decide.2 (by omega)),(below_step W9b hb1).alloc (below_step W9b hb1).size _⟩
  ·go_upto_region 8 with (go_at_call 242;refine (s_long_any _ _ _ _).mono ?_;rintro _ w10 ⟨lo2,rfl,hlo2,hb1⟩;have W10b:=below_step W9b hb1;have hri10:=hri9.keep hb1;have hkept:=keepT hkept hb1 rfl;clear hK;have hK:=hkept;simp only [Kept,ka,kb,kc,kd,ke,kfa,kga] at hK)
   have hres:Hid (RR = (decide ((Go (cn .f32 a2,cn .f32 b2,cn .f32 c2) (cn .f32 t0,cn .f32 t1,cn .f32 t2) (cn .f32 lo2)).1 = 1),true)):=by
    unfold Hid
    rw [hres,lesserF,← hlo,ltk_cn,ltk,hlt,hlo2,hlo]
    rfl
   have W11b:=W10b.setCell (p:=⟨h8,1,none⟩) hw8s (F1 lo2)
   have hmar:MarIn near lo2 (m:Int) h8 0 (w10.setCell ⟨h8,1,none⟩ (F1 lo2)):=⟨by simp only [Kept,ka,kb,kc,kd,ke,kfa,kga];simp [hK,World.cell?_setCell_other,World.cell?_setCell_same']⟩
   have hri11:RayIn a2 b2 c2 t0 t1 t2 g 0 (w10.setCell ⟨h8,1,none⟩ (F1 lo2)):=⟨by simp only [Kept,ka,kb,kc,kd,ke,kfa,kga];simp [hK,hgh,Ne.symm hgh,World.cell?_setCell_other,World.cell?_setCell_same']⟩
   generalize hh:Go (cn .f32 a2,cn .f32 b2,cn .f32 c2) (cn .f32 t0,cn .f32 t1,cn .f32 t2) (cn .f32 lo2) = hit at hres
   have hm2:=hmc a2 b2 c2 t0 t1 t2 lo2 g 0 h8 0 _ W11b hri11 hmar
   rw [hh] at hm2
   clear hmc hh hlo hlo2 hri10 hri9
   go_wp2_with (go_at_call 163;refine hm2.mono ?_;rintro _ w12 ⟨far,px,py,pz,rfl,_,_,hb1⟩)
   go_ret2
   exact ⟨by rw [hres.out];exact congrArg (fun b => Ending.returned (.tuple #[.bool b,.bool true])) (decide_eq_decide.2 (by omega)),(below_step W11b hb1).alloc (below_step W11b hb1).size _⟩
end Go.Proofs.YtbiacfkiakddiaaGreat
