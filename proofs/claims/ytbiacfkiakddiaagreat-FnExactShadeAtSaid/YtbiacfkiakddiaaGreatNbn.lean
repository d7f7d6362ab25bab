/-
 Lemmas: D7,L5,Lg.
-/
import Derived.Test.YtbiacfkiakddiaaGreatNbm
set_option linter.unusedVariables false
set_option linter.unusedSimpArgs false
namespace Go.Proofs.YtbiacfkiakddiaaGreat
open Go.RowKit Go.Fl
inductive PhiAxs:FuncId → Array Value → Value → Prop
 | less (a b c d e f x y z:Nat) (h:cv x y z = lessV (cv a b c) (cv d e f)):PhiAxs 167 #[V3 a b c,V3 d e f] (V3 x y z)
 | unit (a b c x y z:Nat) (h:cv x y z = unitF (cv a b c)):PhiAxs 166 #[V3 a b c] (V3 x y z)
 | cross (a b c d e f x y z:Nat) (h:cv x y z = crossV (cv a b c) (cv d e f)):PhiAxs 264 #[V3 a b c,V3 d e f] (V3 x y z)



set_option maxRecDepth 100000 in
set_option maxHeartbeats 2000000 in
theorem s_axes_any (a b c d e f wd:Nat) (nx ny:Int) (cb c0:Nat) (w:World) (hc:CamIn a b c d e f wd nx ny cb c0 w) :
  Calls Tryz.prog 238 #[.pointer (some ⟨cb,c0,none⟩)] w (RetAx (axesV (cv a b c) (cv d e f)) w):=by
 go_enter Tryz.func238,Tryz.ntmps238
 go_upto_region 1 with fail
 obtain ⟨hB2,hB3,hB4⟩:=v3b_new w
 generalize hW:((w.alloc (.cells #[F1 0,F1 0,F1 0] 38)).alloc (.cells #[F1 0,F1 0,F1 0] 38)).alloc (.cells #[F1 0,F1 0,F1 0] 38) = W1 at *
 have W1b:Below w.heap.size w W1:=by subst hW;exact (by repeat' (first | exact Below.refl _ _ | exact Nat.le_refl _ | refine below_drewN ?_ _ | refine Below.alloc ?_ (by simp <;> omega) _ | refine Below.setCell ?_ (by simp <;> omega) _ | refine below_step ?_ (by assumption)))
 have hkept:Kept [(⟨w.heap.size,0,none⟩,F1 0),(⟨w.heap.size,1,none⟩,F1 0),(⟨w.heap.size,2,none⟩,F1 0),(⟨w.heap.size + 1,0,none⟩,F1 0),(⟨w.heap.size + 1,1,none⟩,F1 0),(⟨w.heap.size + 1,2,none⟩,F1 0),(⟨w.heap.size + 1 + 1,0,none⟩,F1 0),(⟨w.heap.size + 1 + 1,1,none⟩,F1 0),(⟨w.heap.size + 1 + 1,2,none⟩,F1 0)] [⟨w.heap.size,0,none⟩,⟨w.heap.size,1,none⟩,⟨w.heap.size,2,none⟩,⟨w.heap.size + 1,0,none⟩,⟨w.heap.size + 1,1,none⟩,⟨w.heap.size + 1,2,none⟩,⟨w.heap.size + 1 + 1,0,none⟩,⟨w.heap.size + 1 + 1,1,none⟩,⟨w.heap.size + 1 + 1,2,none⟩] W1:=by
  subst hW;simp only [Kept,ka,kb,kc,kd,ke,and_true,true_and];(first | (go_simp;done) | (simp [World.cell?,World.frozen?,World.alloc,Array.getElem?_push];done))
 clear hW
 have hkept:=kept_app (hc.keep W1b).kept hkept
 clear hc
 refine Qr.wp_made 11 10 5 #[F1 0,F1 0,F1 0] 38 (by kernel_rfl) (by kernel_rfl) PhiAxs rfl (by kernel_rfl) ⟨_,rfl,rfl,fun a w => by go_simp⟩ (by kernel_rfl) ?_
 repeat (first | (refine Qr.walk_plain rfl fun K hK => ?_;apply Qr.one_det;(focus (intro w' hw';have HK:=keep hkept hw';simp only [Kept,ka,kb,kc,kd,ke,and_true,true_and] at HK;go_simp;first | done | rfl));go_simp;refine hK _ ?_;clear hK K) | (refine Qr.walk_plain rfl fun K hK => ?_;refine Qr.one_rel (fun v => ∃ g,v = .pointer (some ⟨g,0,none⟩)) (fun w' hw' => ⟨.pointer (some ⟨w'.heap.size,0,none⟩),_,by go_simp;rfl,⟨_,rfl⟩,hw'.alloc hw'.size _,(Below.refl _ _).alloc (Nat.le_refl _) _⟩) (fun v hv => ?_);obtain ⟨g,rfl⟩:=hv;go_simp;refine hK _ ?_;clear hK K) | (refine Qr.walk_plain rfl fun K hK => ?_;apply Qr.one_call;(focus (intro w' hw';go_simp;first | done | exact ⟨rfl,rfl⟩));(focus (intro w' hw'; go_at_call 167;refine (s_less_any _ _ _ _ _ _ _).mono ?_;rintro _ w2 ⟨x1,y1,z1,rfl,hx1,hy1,hz1,hb1⟩ ;exact ⟨_,rfl,by constructor;first | assumption | (exact v3_mk (by assumption) (by assumption) (by assumption)),below_step hw' (by assumption),by assumption⟩));intro v hv;cases hv;go_simp;refine hK _ ?_;clear hK K) | (refine Qr.walk_plain rfl fun K hK => ?_;apply Qr.one_call;(focus (intro w' hw';go_simp;first | done | exact ⟨rfl,rfl⟩));(focus (intro w' hw'; go_at_call 166;refine (s_unit_any _ _ _ _).mono ?_;rintro _ w2 ⟨x1,y1,z1,rfl,hx1,hy1,hz1,hb1⟩ ;exact ⟨_,rfl,by constructor;first | assumption | (exact v3_mk (by assumption) (by assumption) (by assumption)),below_step hw' (by assumption),by assumption⟩));intro v hv;cases hv;go_simp;refine hK _ ?_;clear hK K) | (refine Qr.walk_plain rfl fun K hK => ?_;apply Qr.one_call;(focus (intro w' hw';go_simp;first | done | exact ⟨rfl,rfl⟩));(focus (intro w' hw'; go_at_call 264;refine (s_cross_any _ _ _ _ _ _ _).mono ?_;rintro _ w2 ⟨x1,y1,z1,rfl,hx1,hb1⟩ ;exact ⟨_,rfl,by constructor;first | assumption | (exact v3_mk (by assumption) (by assumption) (by assumption)),below_step hw' (by assumption),by assumption⟩));intro v hv;cases hv;go_simp;refine hK _ ?_;clear hK K))
 rename_i x1 y1 z1 h1 x2 y2 z2 h2
 refine Qr.walk_nil fun w3 hw3 hmade => ?_
 obtain ⟨g3,hg3,hgw,hgc⟩:=hmade _ rfl
 injection hg3 with hg3
 injection hg3 with hg3
 subst hg3
 obtain ⟨hc0,hc1,hc2,hf0,hf1,hf2⟩:=cells3 hgc
 go_upto_region 2 with fail
 have hset:=set3 hgc (F1 x2) (F1 y2) (F1 z2)
 have hbw:=hw3.trans (hset.2.mono hgw)
 clear hc0 hc1 hc2 hf0 hf1 hf2 hgc hw3
 generalize ((w3.setCell ⟨g,0,none⟩ (F1 x2)).setCell ⟨g,1,none⟩ (F1 y2)).setCell ⟨g,2,none⟩ (F1 z2) = w4 at hset hbw ⊢
 have hkept:=kept_app (keep hkept hbw) (kept3 hset.1)
 have W1b:=below_step W1b hbw
 have W7c:=hbw
 have hgW:=hgw
 have hW1:w.heap.size + 1 + 1 < W1.heap.size:=by obtain ⟨_,_,_,h⟩:=hB4;exact (Array.getElem?_eq_some_iff.1 h).1
 clear hset hbw hgw
 have hf:cv x2 y2 z2 = fwdV (cv a b c) (cv d e f):=by rw [h2,h1];rfl
 clear h1 h2
 have hK:=hkept;simp only [Kept,ka,kb,kc,kd,ke,and_true,true_and] at hK
 go_upto_region 3 with (first | (go_at_call 264;refine (s_cross_any _ _ _ _ _ _ _).mono ?_;rintro _ w5 ⟨x3,y3,z3,rfl,h3,hb1⟩;have W1b:=below_step W1b hb1;have W7c:=below_step W7c hb1;have hkept:=keepT hkept hb1 rfl;clear hK;have hK:=hkept;simp only [Kept,ka,kb,kc,kd,ke,and_true,true_and] at hK) | (go_at_call 166;refine (s_unit_any _ _ _ _).mono ?_;rintro _ w6 ⟨x4,y4,z4,rfl,h4,h5,h6,hb1⟩;have W1b:=below_step W1b hb1;have W7c:=below_step W7c hb1;have hs6:=W7c.size;have hkept:=keepT hkept hb1 rfl;clear hK;have hK:=hkept;simp only [Kept,ka,kb,kc,kd,ke,and_true,true_and] at hK))
 have hr:cv x4 y4 z4 = rightV (cv a b c) (cv d e f):=by
  rw [v3_mk h4 h5 h6]
  unfold rightV
  rw [← hf,show unitF (crossV (cv x2 y2 z2) upV) = unitF (cv x3 y3 z3) from congrArg unitF h3.symm]
  rfl
 have hb6:Below w6.heap.size w6 (w6.alloc (.cells #[F1 x4,F1 y4,F1 z4] 38)):=(Below.refl _ _).alloc (Nat.le_refl _) _
 have hkept:=kept_app (keep hkept hb6) (show Kept [(⟨w6.heap.size,0,none⟩,F1 x4),(⟨w6.heap.size,1,none⟩,F1 y4),(⟨w6.heap.size,2,none⟩,F1 z4)] [] (w6.alloc (.cells #[F1 x4,F1 y4,F1 z4] 38)) by simp only [Kept,ka,kb,kc,kd,ke,and_true,true_and];simp)
 have W1b:=below_step W1b hb6
 have W7c:=below_step W7c hb6
 clear hK hb1 hb6 h3 h4 h5 h6
 generalize w6.alloc (.cells #[F1 x4,F1 y4,F1 z4] 38) = w7 at *
 replace hB2:=hB2.keep W7c
 replace hB3:=hB3.keep W7c
 replace hB4:=hB4.keep W7c
 have hkl:Kept [(⟨g,0,none⟩,F1 x2),(⟨g,1,none⟩,F1 y2),(⟨g,2,none⟩,F1 z2),(⟨w6.heap.size,0,none⟩,F1 x4),(⟨w6.heap.size,1,none⟩,F1 y4),(⟨w6.heap.size,2,none⟩,F1 z4)] [] w7:=by
  have hK:=hkept;simp only [Kept,ka,kb,kc,kd,ke,and_true,true_and] at hK
  simp only [Kept,ka,kb,kc,kd,ke,and_true,true_and]
  simp [hK]
 clear hkept W7c
 have hf:=Lib.hid hf
 have hr:=Lib.hid hr
 generalize hG6:w6.heap.size = g6 at *
 have n1:w.heap.size ≠ g:=by omega
 have n2:w.heap.size ≠ g6:=by omega
 have n3:w.heap.size + 1 ≠ g:=by omega
 have n4:w.heap.size + 1 ≠ g6:=by omega
 clear hG6 hs6 hgW
 refine Qh.wp_stT 7 (by kernel_rfl) (by kernel_rfl) (by kernel_rfl) (fun w' => Kept [(⟨g,0,none⟩,F1 x2),(⟨g,1,none⟩,F1 y2),(⟨g,2,none⟩,F1 z2),(⟨g6,0,none⟩,F1 x4),(⟨g6,1,none⟩,F1 y4),(⟨g6,2,none⟩,F1 z4)] [] w' ∧ Below w.heap.size w w' ∧ V3B w.heap.size w' ∧ V3B (w.heap.size + 1) w' ∧ V3B (w.heap.size + 1 + 1) w') ?_ PhiC3 (GdV 24 (crossV (cv x4 y4 z4) (cv x2 y2 z2))) [] (Qh.RrT (AxTr w.heap.size #[F1 x4,F1 y4,F1 z4] (AxP (crossV (cv x4 y4 z4) (cv x2 y2 z2))))) (Qh.FoS (AxS w.heap.size #[F1 x4,F1 y4,F1 z4] (AxP (crossV (cv x4 y4 z4) (cv x2 y2 z2))))) (Qh.aux_mk axtr_trans axs_last) ⟨fun _ _ _ _ h _ => h,fun _ _ _ => .inl rfl⟩ ⟨fun d hd => (by subst hd;exact .inl rfl),fun d hd => (by cases hd),fun d hd => (by cases hd)⟩ ?_
 ·have hd:Below w7.heap.size w7 { w7 with drawn:=w7.drawn + 1 }:=(Below.refl _ _).drew
  exact ⟨Go.Fl.keep hkl hd,W1b.trans (hd.mono W1b.size),hB2.keep hd,hB3.keep hd,hB4.keep hd⟩
 ·have hC0:(fun w' => Kept [(⟨g,0,none⟩,F1 x2),(⟨g,1,none⟩,F1 y2),(⟨g,2,none⟩,F1 z2),(⟨g6,0,none⟩,F1 x4),(⟨g6,1,none⟩,F1 y4),(⟨g6,2,none⟩,F1 z4)] [] w' ∧ Below w.heap.size w w' ∧ V3B w.heap.size w' ∧ V3B (w.heap.size + 1) w' ∧ V3B (w.heap.size + 1 + 1) w') w7:=⟨hkl,W1b,hB2,hB3,hB4⟩
  repeat (first
   | (refine Qh.walk_step fun K hK => ?_;apply Qh.one_det (Qh.aux_mk axtr_trans axs_last) hC0 (by intro d _ hd;cases hd) rfl rfl;(focus (intro w' hw';have HK:=hw'.1;simp only [Kept,ka,kb,kc,kd,ke,and_true,true_and] at HK;go_simp;first | done | rfl));(focus (intro w' hw' hs hd;cases hd));go_simp;refine hK _ ?_;clear hK K)
   | (refine Qh.walk_step fun K hK => ?_;apply Qh.one_call (Qh.aux_mk axtr_trans axs_last) _ _ hC0 (by intro d _ hd;cases hd) rfl rfl;(focus (intro w' hw';go_simp;first | done | exact ⟨rfl,rfl⟩));(focus (apply Exists.intro;(constructor <;> first | exact (0:Nat) | exact undef)));(focus (intro w' hw' hs; go_at_call 264;refine (s_cross_any _ _ _ _ _ _ _).mono ?_;rintro _ wA ⟨x5,y5,z5,rfl,h5,hb1⟩;exact ⟨_,rfl,.mk _ _ _ _ _,fun _ => .inr ⟨_,_,_,rfl,h5⟩,⟨Go.Fl.keep hw'.1 hb1,hw'.2.1.trans (hb1.mono hw'.2.1.size),hw'.2.2.1.keep hb1,hw'.2.2.2.1.keep hb1,hw'.2.2.2.2.keep hb1⟩,Qh.rrt_below hb1⟩));intro v hv;cases hv;go_simp;refine hK _ ?_;clear hK K))
  rename_i x5 y5 z5
  refine Qh.walk_step fun K hK => ?_
  refine Qh.one_store rfl (fun w' hw' hs => ?_) (hK _ ?_)
  ·clear hK K hC0
   obtain ⟨hk',hb',⟨p,q,s,hb2⟩,hb3,hb4⟩:=hw'
   obtain ⟨c0',c1',c2',f0',f1',f2'⟩:=cells3 hb2
   have HK:=hk'
   simp only [Kept,ka,kb,kc,kd,ke,and_true,true_and] at HK
   have h6:=(set3 hb2 (F1 x4) (F1 y4) (F1 z4)).1
   refine ⟨((w'.setCell ⟨w.heap.size,0,none⟩ (F1 x4)).setCell ⟨w.heap.size,1,none⟩ (F1 y4)).setCell ⟨w.heap.size,2,none⟩ (F1 z4),(by go_simp;first | done | rfl),⟨?_,bel3 hb' (Nat.le_refl _) ..,⟨_,_,_,h6⟩,((hb3.other (by omega) _ _).other (by omega) _ _).other (by omega) _ _,((hb4.other (by omega) _ _).other (by omega) _ _).other (by omega) _ _⟩,⟨by simp [World.setCell],fun b hb => ?_⟩,?_⟩
   ·simp only [Kept,ka,kb,kc,kd,ke,and_true,true_and];simp [HK,World.cell?_setCell_other,n1,n2]
   ·by_cases e:w.heap.size = b
    ·subst e;exact .inr (.inl ⟨rfl,h6⟩)
    ·left;simp only [World.setCell,Array.getElem?_modify,if_neg e]
   ·intro hn ty d x ho g' hg
    injection ho with _ h1 _
    injection h1 with h1
    subst h1
    exact ⟨fun _ _ => h6,fun hd => (by cases hd)⟩
  refine Qh.walk_step fun K hK => ?_
  refine Qh.one_store rfl (fun w' hw' hs => ?_) (hK _ ?_)
  ·clear hK K hC0
   obtain ⟨hk',hb',hb2,⟨p,q,s,hb3⟩,hb4⟩:=hw'
   obtain ⟨c0',c1',c2',f0',f1',f2'⟩:=cells3 hb3
   have HK:=hk'
   simp only [Kept,ka,kb,kc,kd,ke,and_true,true_and] at HK
   have h6:=(set3 hb3 (F1 x5) (F1 y5) (F1 z5)).1
   have h7:AxP (crossV (cv x4 y4 z4) (cv x2 y2 z2)) #[F1 x5,F1 y5,F1 z5]:=by
    rcases hs 24 (of_decide_eq_true (by kernel_rfl)) rfl with h | ⟨x,y,z,e,h⟩
    ·cases h
    ·injection e with e
     exact ⟨x,y,z,e,h⟩
   refine ⟨((w'.setCell ⟨w.heap.size + 1,0,none⟩ (F1 x5)).setCell ⟨w.heap.size + 1,1,none⟩ (F1 y5)).setCell ⟨w.heap.size + 1,2,none⟩ (F1 z5),(by go_simp;first | done | rfl),⟨?_,bel3 hb' (by omega) ..,((hb2.other (by omega) _ _).other (by omega) _ _).other (by omega) _ _,⟨_,_,_,h6⟩,((hb4.other (by omega) _ _).other (by omega) _ _).other (by omega) _ _⟩,⟨by simp [World.setCell],fun b hb => ?_⟩,?_⟩
   ·simp only [Kept,ka,kb,kc,kd,ke,and_true,true_and];simp [HK,World.cell?_setCell_other,n3,n4]
   ·by_cases e:w.heap.size + 1 = b
    ·subst e;exact .inr (.inr ⟨rfl,_,h6,h7⟩)
    ·left;simp only [World.setCell,Array.getElem?_modify,if_neg e]
   ·intro hn ty d x ho g' hg
    injection ho with _ h1 _
    injection h1 with h1
    subst h1
    exact ⟨fun hd => (by cases hd),fun _ _ => ⟨_,h6,h7⟩⟩
  refine Qh.walk_nil fun w8 hw8 hE hF => ?_
  have h2:=(hF _ (List.mem_of_getElem? (i:=5) rfl) rfl _ _ _ rfl _ rfl).1 rfl rfl
  obtain ⟨A,h3,x6,y6,z6,rfl,h4⟩:=(hF _ (List.mem_of_getElem? (i:=6) rfl) rfl _ _ _ rfl _ rfl).2 rfl rfl
  clear hF hE hC0 hB2 hB3 hB4 W1b hkl
  obtain ⟨hk8,hb8,-,-,p,q,s,hb4⟩:=hw8
  obtain ⟨c0',c1',c2',f0',f1',f2'⟩:=cells3 hb4
  obtain ⟨d0,d1,d2,-⟩:=cells3 h2
  obtain ⟨e0,e1,e2,-⟩:=cells3 h3
  clear h2 h3 hb4
  have hu:cv x6 y6 z6 = (axesV (cv a b c) (cv d e f)).2.1:=by rw [h4,hr.out,hf.out,ax2]
  have hu:=Lib.hid hu
  have hr:Hid (cv x4 y4 z4 = (axesV (cv a b c) (cv d e f)).1):=by unfold Hid;rw [ax1];exact hr.out
  have hf:Hid (cv x2 y2 z2 = (axesV (cv a b c) (cv d e f)).2.2):=by unfold Hid;rw [ax3];exact hf.out
  clear h4 hk8
  go_wp2_with fail
  refine bodyPost_ret (v:=.tuple #[V3 x4 y4 z4,V3 x6 y6 z6,V3 x2 y2 z2]) ?_ rfl ⟨x4,y4,z4,x6,y6,z6,x2,y2,z2,rfl,hr.out,hu.out,hf.out,bel3 hb8 (by omega) ..⟩
  simp [results,Tryz.results238,go_sem,d0,d1,d2,e0,e1,e2,c0',c1',c2',World.cell?_setCell_other,World.cell?_setCell_same']
  first | done | exact ⟨rfl,rfl,rfl⟩
end Go.Proofs.YtbiacfkiakddiaaGreat

namespace Go.Proofs.YtbiacfkiakddiaaGreat
open Go.RowKit Go.Fl
/-- A shape made anew comes back. -/
def RetSh (ns:List PN) (w:World) (e:Ending) (w':World):Prop :=
 ∃ G,e = .returned (.agg #[.slice (some ⟨G,0,none⟩) ns.length ns.length]) ∧ (∀ i (h:i < ns.length),NodeNew ns[i] G (0 + i * 4) w') ∧ w.heap.size ≤ G ∧ Below w.heap.size w w'

set_option maxRecDepth 100000 in
set_option maxHeartbeats 2000000 in
theorem to_shape (ns:List PN) (hlen:(ns.length:Int) ≤ 1048576) (hnum:∀ n ∈ ns,(n.nums.length:Int) ≤ 1048576) (bp:Option Addr) (nb no cap:Nat) (w:World) (hns:NodesIn ns bp nb no w) :
  Calls Tryz.prog 15 #[.agg #[.slice bp ns.length cap]] w (RetSh ns w):=by
 have hc:=fun w' (h:Below w.heap.size w w') => to_nodes ns hlen hnum bp nb no cap w' (hns.keep h)
 clear hns hnum
 go_enter Tryz.func15,Tryz.ntmps15
 go_wp2_with fail
 have Wb:Below w.heap.size w (((w.alloc (.cells #[.slice bp ns.length cap] 24)).alloc (.cells #[.slice none 0 0] 36)).alloc (.cells #[.slice none 0 0] 36)):=(by repeat' (first | exact Below.refl _ _ | exact Nat.le_refl _ | refine below_drewN ?_ _ | refine Below.alloc ?_ (by simp <;> omega) _ | refine Below.setCell ?_ (by simp <;> omega) _ | refine below_step ?_ (by assumption)))

 have hkept:Kept [(⟨w.heap.size + 1,0,none⟩,.slice none 0 0),(⟨w.heap.size + 1 + 1,0,none⟩,.slice none 0 0)] [⟨w.heap.size + 1,0,none⟩,⟨w.heap.size + 1 + 1,0,none⟩] (((w.alloc (.cells #[.slice bp ns.length cap] 24)).alloc (.cells #[.slice none 0 0] 36)).alloc (.cells #[.slice none 0 0] 36)):=by
  simp only [Kept,ka,kb,kc,kd,ke,and_true,true_and];(first | (go_simp;done) | (simp [World.cell?,World.frozen?,World.alloc,Array.getElem?_push];done))
 have hWs:(((w.alloc (.cells #[.slice bp ns.length cap] 24)).alloc (.cells #[.slice none 0 0] 36)).alloc (.cells #[.slice none 0 0] 36)).heap.size = w.heap.size + 1 + 1 + 1:=by simp
 generalize ((w.alloc (.cells #[.slice bp ns.length cap] 24)).alloc (.cells #[.slice none 0 0] 36)).alloc (.cells #[.slice none 0 0] 36) = W at *
 refine (hc _ Wb).mono ?_
 rintro _ w2 ⟨G,rfl,hnew,hG,hb2⟩
 have W2b:=below_step Wb hb2
 have hkept2:=keep hkept hb2
 have hK:=hkept2
 simp only [Kept,ka,kb,kc,kd,ke,and_true,true_and] at hK
 have hGs:w.heap.size + 1 + 1 < G:=by omega
 have hH:=Lib.hid hnew
 clear hc hkept hb2 Wb hnew hkept2 hG hWs
 obtain ⟨hK1,hK2⟩:=hK
 go_wp2_with fail
 refine bodyPost_ret (v:=.agg #[.slice (some ⟨G,0,none⟩) ns.length ns.length]) (by simp [results,Tryz.results15,go_sem,hK1,hK2]) rfl ⟨G,rfl,fun i hi => ?_,by omega,?_⟩
 ·exact ((hH.out i hi).far _ (by show w.heap.size + 1 + 1 < G;omega) _).far _ (by show w.heap.size + 1 < G;omega) _
 ·exact (W2b.setCell (by show w.heap.size ≤ w.heap.size + 1 + 1;omega) _).setCell (by exact Nat.le_succ _) _

set_option maxRecDepth 100000 in
set_option maxHeartbeats 1000000 in
theorem to_vector (x y z:Nat) (w:World) :
  Calls Tryz.prog 64 #[V3 x y z] w (fun e w' => e = .returned (V3 x y z) ∧ Below w.heap.size w w'):=by
 go_enter Tryz.func64,Tryz.ntmps64
 go_wp2_with fail
 exact bodyPost_ret (v:=.agg #[F1 _,F1 _,F1 _]) (by simp [results,Tryz.results64,go_sem];first | done | exact ⟨rfl,rfl,rfl⟩) rfl ⟨rfl,(by repeat' (first | exact Below.refl _ _ | exact Nat.le_refl _ | refine below_drewN ?_ _ | refine Below.alloc ?_ (by simp <;> omega) _ | refine Below.setCell ?_ (by simp <;> omega) _ | refine below_step ?_ (by assumption)))⟩

theorem order_self {k:FloatKind} {x:Nat} (h:(k.decode x).isNaN = false):k.format.order x x = some .eq:=by
 show (k.decode x).order (k.decode x) = _
 cases hd:k.decode x with
 | nan s t => rw [hd] at h;cases h
 | infinity s => cases s <;> rfl
 | number s m e =>
  show some (compare _ _) = _
  rw [Ft.cmp_eq.2 rfl]

theorem gt_same {a b:Nat} (h:cn .f64 a = cn .f64 b):((FloatKind.f64.format.order a 0 == some .gt) == (FloatKind.f64.format.order b 0 == some .gt)) = true:=by
 rw [← ord_r0 .f64 a,← ord_r0 .f64 b,h];simp

set_option maxRecDepth 100000 in
set_option maxHeartbeats 1000000 in
theorem same_float (u v:Nat) (h:cn .f64 u = cn .f64 v) (w:World) :
  Calls Tryz.prog 47 #[.float .f64 u,.float .f64 v] w (fun e w' => e = .returned (.bool true) ∧ Below w.heap.size w w'):=by
 cases hu:(FloatKind.f64.decode u).isNaN
 ·have hv:(FloatKind.f64.decode v).isNaN = false:=by rw [← isNaN_cn,← h,isNaN_cn];exact hu
  rw [cn_of_not hu,cn_of_not hv] at h
  subst h
  have h1:(FloatKind.f64.format.order u u != some .eq) = false:=by rw [order_self hu];rfl
  have h2:(FloatKind.f64.format.order u u == some .eq) = true:=by rw [order_self hu];rfl
  clear hu hv
  cases hz:(FloatKind.f64.format.order u 0 == some .eq)
  ·go_enter Tryz.func47,Tryz.ntmps47
   go_wp2_with (refine wp_bin rfl _ _ _ _ _ rfl _ _ _ rfl rfl rfl ?_;intro r n hr)
   go_ret
   exact ⟨by first | rfl | (rw [h2];rfl) | simp,(by repeat' (first | exact Below.refl _ _ | exact Nat.le_refl _ | refine below_drewN ?_ _ | refine Below.alloc ?_ (by simp <;> omega) _ | refine Below.setCell ?_ (by simp <;> omega) _ | refine below_step ?_ (by assumption)))⟩
  ·go_enter Tryz.func47,Tryz.ntmps47
   go_wp2_with (refine wp_bin rfl _ _ _ _ _ rfl _ _ _ rfl rfl rfl ?_;intro r n hr)
   go_ret
   exact ⟨congrArg Ending.returned (congrArg Value.bool (gt_same (by simp only [*]))),(by repeat' (first | exact Below.refl _ _ | exact Nat.le_refl _ | refine below_drewN ?_ _ | refine Below.alloc ?_ (by simp <;> omega) _ | refine Below.setCell ?_ (by simp <;> omega) _ | refine below_step ?_ (by assumption)))⟩
 ·have hv:(FloatKind.f64.decode v).isNaN = true:=by rw [← isNaN_cn,← h,isNaN_cn];exact hu
  have h1:(FloatKind.f64.format.order u u != some .eq) = true:=by
   show ((FloatKind.f64.decode u).order (FloatKind.f64.decode u) != some .eq) = true
   rw [order_nan_l hu];rfl
  have h2:(FloatKind.f64.format.order v v != some .eq) = true:=by
   show ((FloatKind.f64.decode v).order (FloatKind.f64.decode v) != some .eq) = true
   rw [order_nan_l hv];rfl
  clear hu hv h
  go_enter Tryz.func47,Tryz.ntmps47
  go_wp2_with fail
  go_ret
  exact ⟨rfl,(by repeat' (first | exact Below.refl _ _ | exact Nat.le_refl _ | refine below_drewN ?_ _ | refine Below.alloc ?_ (by simp <;> omega) _ | refine Below.setCell ?_ (by simp <;> omega) _ | refine below_step ?_ (by assumption)))⟩

open Go.RowKit Go.Fl
/-- float64(x) in a region that draws its order. -/
theorem one_wid {P:Program} {W:World} {Phi:FuncId → Array Value → Value → Prop} {o:Oper} {a:Act} {K:Act → Prop} (s d:TypeId) (x:Operand)
  (ho:o.op = .convert s d x) (u:Nat) (hx:a.eval x = F1 u) (hs:(P.underlying s).isSome = true) (hd:P.underlying d = some (.float .f64))
  (h:∀ r,cn .f64 r = wid (cn .f32 u) → K (a.put o.dst (.float .f64 r))):Qr.one P (fun w' => Below W.heap.size W w') Phi o a K:=by
 refine Qr.one_rel (fun x => ∃ r,x = .float .f64 r ∧ cn .f64 r = wid (cn .f32 u)) (fun w' hw' => ?_) ?_
 ·obtain ⟨r,n,hr,hc⟩:=run_conv (P:=P) w' s d .f32 .f64 (by decide) hs hd u (fitsW_all u)
  refine ⟨_,w'.drewN n,exec_convert o a s d x ho w' _ _ (by rw [hx];exact hr),⟨r,rfl,?_⟩,⟨hw'.os,hw'.tape,hw'.output,hw'.size,hw'.block⟩,rfl,rfl,rfl,Nat.le_refl _,fun _ _ => rfl⟩
  rw [hc];exact (cn_pick .f32 .f64 u).symm
 ·rintro _ ⟨r,rfl,hr⟩
  exact h r hr

inductive PhiE:FuncId → Array Value → Value → Prop
 | yes (f:FuncId) (args:Array Value):PhiE f args (.bool true)


set_option maxRecDepth 100000 in
set_option maxHeartbeats 2000000 in
theorem eq_floats (xs:List Nat) (hlen:(xs.length:Int) ≤ 1048576) (p q:Nat) (pc qc:Nat) (w:World) (h1:∀ i (h:i < xs.length),w.cell? ⟨p,0 + i,none⟩ = some (F1 xs[i])) (h2:∀ i (h:i < xs.length),w.cell? ⟨q,0 + i,none⟩ = some (F1 xs[i])) :
  Calls Tryz.prog 226 #[.slice (some ⟨p,0,none⟩) xs.length pc,.slice (some ⟨q,0,none⟩) xs.length qc] w (fun e w' => e = .returned (.bool true) ∧ Below w.heap.size w w'):=by
 go_enter Tryz.func226,Tryz.ntmps226
 go_wp2_with fail
 go_loopw [5] (fun i wr => ∃ (m:Nat),m ≤ xs.length ∧ i = .int .i64 (m:Int) ∧ Below w.heap.size w wr) (fun i _ => xs.length - (intOf i).toNat)
 case atStart => exact ⟨0,by omega,rfl,Below.refl _ _⟩
 case round =>
  obtain ⟨m,hm,rfl,Wb⟩:=hrel
  by_cases hlt:m < xs.length
  ·have hlt':(m:Int) < (xs.length:Int):=by omega
   have h0:(0:Int) ≤ (m:Int):=by omega
   have hc1:wr.cell? ⟨p,m,none⟩ = some (F1 xs[m]):=by have:=h1 m hlt;rw [Nat.zero_add] at this;rw [lift Wb _ (by rw [this];rfl)];exact this
   have hc2:wr.cell? ⟨q,m,none⟩ = some (F1 xs[m]):=by have:=h2 m hlt;rw [Nat.zero_add] at this;rw [lift Wb _ (by rw [this];rfl)];exact this
   generalize xs[m] = x at hc1 hc2
   have hkept:Kept [(⟨p,m,none⟩,F1 x),(⟨q,m,none⟩,F1 x)] [] wr:=by
    simp only [Kept,ka,kb,kc,kd,ke,and_true,true_and]
    exact ⟨hc1,hc2⟩
   clear h1 h2 hc1 hc2
   go_upto_region 6 with fail
   refine Qr.wp_below_all (by kernel_rfl) (by kernel_rfl) PhiE ?_
   repeat (first | (refine Qr.walk_plain rfl fun K hK => ?_;apply Qr.one_det;(focus (intro w' hw';have HK:=keep hkept hw';simp only [Kept,ka,kb,kc,kd,ke,and_true,true_and] at HK;go_simp;first | done | rfl));go_simp;refine hK _ ?_;clear hK K) | (refine Qr.walk_plain rfl fun K hK => ?_;refine one_wid _ _ _ rfl _ rfl some_f32 Tryz.underlying89 (fun r hr => ?_);go_simp;refine hK _ ?_;clear hK K) | (refine Qr.walk_plain rfl fun K hK => ?_;apply Qr.one_call;(focus (intro w' hw';go_simp;first | done | exact ⟨rfl,rfl⟩));(focus (intro w' hw'; go_at_call 47;refine (same_float _ _ (by simp only [*]) _).mono ?_;rintro _ w2 ⟨rfl,hb1⟩;exact ⟨_,rfl,PhiE.yes _ _,below_step hw' (by assumption),by assumption⟩));intro v hv;cases hv;go_simp;refine hK _ ?_;clear hK K))
   refine Qr.walk_nil fun w6 hw6 => ?_
   go_wp2_with fail
   exact ⟨⟨m + 1,by omega,by simp,below_step Wb hw6⟩,by simp [intOf];omega⟩
  ·obtain rfl:m = xs.length:=by omega
   clear h1 h2
   go_wp2_with fail
   go_ret
   exact ⟨rfl,Wb⟩

set_option maxRecDepth 100000 in
set_option maxHeartbeats 2000000 in
theorem eq_node (n:PN) (hlen:(n.nums.length:Int) ≤ 1048576) (p q pc qc:Nat) (w:World) (h1:∀ i (h:i < n.nums.length),w.cell? ⟨p,0 + i,none⟩ = some (F1 n.nums[i])) (h2:∀ i (h:i < n.nums.length),w.cell? ⟨q,0 + i,none⟩ = some (F1 n.nums[i])) :
  Calls Tryz.prog 139 #[.agg #[.int .i64 n.kind,.int .i64 n.a,.int .i64 n.b,.slice (some ⟨p,0,none⟩) n.nums.length pc],.agg #[.int .i64 n.kind,.int .i64 n.a,.int .i64 n.b,.slice (some ⟨q,0,none⟩) n.nums.length qc]] w (fun e w' => e = .returned (.bool true) ∧ Below w.heap.size w w'):=by
 have hc:∀ w',Below w.heap.size w w' → Calls Tryz.prog 226 #[.slice (some ⟨p,0,none⟩) n.nums.length pc,.slice (some ⟨q,0,none⟩) n.nums.length qc] w' (fun e w'' => e = .returned (.bool true) ∧ Below w'.heap.size w' w'') :=
  fun w' hb => eq_floats n.nums hlen p q pc qc w' (fun i h => by rw [lift hb _ (by rw [h1 i h];rfl)];exact h1 i h) (fun i h => by rw [lift hb _ (by rw [h2 i h];rfl)];exact h2 i h)
 clear h1 h2
 go_enter Tryz.func139,Tryz.ntmps139
 go_wp2_with (go_at_call 226;refine (hc _ (by repeat' (first | exact Below.refl _ _ | exact Nat.le_refl _ | refine below_drewN ?_ _ | refine Below.alloc ?_ (by simp <;> omega) _ | refine Below.setCell ?_ (by simp <;> omega) _ | refine below_step ?_ (by assumption)))).mono ?_;rintro _ w2 ⟨rfl,hb2⟩)
 go_ret
 exact ⟨rfl,(by repeat' (first | exact Below.refl _ _ | exact Nat.le_refl _ | refine below_drewN ?_ _ | refine Below.alloc ?_ (by simp <;> omega) _ | refine Below.setCell ?_ (by simp <;> omega) _ | refine below_step ?_ (by assumption)))⟩

set_option maxRecDepth 100000 in
set_option maxHeartbeats 2000000 in
theorem eq_nodes (ns:List PN) (hlen:(ns.length:Int) ≤ 1048576) (hnum:∀ n ∈ ns,(n.nums.length:Int) ≤ 1048576) (G H gc hc:Nat) (w:World) (h1:∀ i (h:i < ns.length),NodeNew ns[i] G (0 + i * 4) w) (h2:∀ i (h:i < ns.length),NodeNew ns[i] H (0 + i * 4) w) :
  Calls Tryz.prog 69 #[.slice (some ⟨G,0,none⟩) ns.length gc,.slice (some ⟨H,0,none⟩) ns.length hc] w (fun e w' => e = .returned (.bool true) ∧ Below w.heap.size w w'):=by
 go_enter Tryz.func69,Tryz.ntmps69
 go_wp2_with fail
 go_loopw [5] (fun i wr => ∃ (m:Nat),m ≤ ns.length ∧ i = .int .i64 (m:Int) ∧ Below w.heap.size w wr) (fun i _ => ns.length - (intOf i).toNat)
 case atStart => exact ⟨0,by omega,rfl,Below.refl _ _⟩
 case round =>
  obtain ⟨m,hm,rfl,Wb⟩:=hrel
  by_cases hlt:m < ns.length
  ·have hlt':(m:Int) < (ns.length:Int):=by omega
   have h0:(0:Int) ≤ (m:Int):=by omega
   have hA:=(h1 m hlt).keep Wb
   have hB:=(h2 m hlt).keep Wb
   have hnl:=hnum ns[m] (List.getElem_mem _)
   rw [Nat.zero_add] at hA hB
   generalize ns[m] = n at hA hB hnl
   obtain ⟨p,-,hA3,hA4⟩:=hA.nums
   obtain ⟨q,-,hB3,hB4⟩:=hB.nums
   have hkept:Kept [(⟨G,m * 4,none⟩,.int .i64 n.kind),(⟨G,m * 4 + 1,none⟩,.int .i64 n.a),(⟨G,m * 4 + 2,none⟩,.int .i64 n.b),(⟨G,m * 4 + 3,none⟩,.slice (some ⟨p,0,none⟩) n.nums.length n.nums.length),(⟨H,m * 4,none⟩,.int .i64 n.kind),(⟨H,m * 4 + 1,none⟩,.int .i64 n.a),(⟨H,m * 4 + 2,none⟩,.int .i64 n.b),(⟨H,m * 4 + 3,none⟩,.slice (some ⟨q,0,none⟩) n.nums.length n.nums.length)] [] wr:=by
    simp only [Kept,ka,kb,kc,kd,ke,and_true,true_and]
    exact ⟨hA.kind,hA.a,hA.b,hA3,hB.kind,hB.a,hB.b,hB3⟩
   have hcall:∀ w',Below wr.heap.size wr w' → Calls Tryz.prog 139 #[.agg #[.int .i64 n.kind,.int .i64 n.a,.int .i64 n.b,.slice (some ⟨p,0,none⟩) n.nums.length n.nums.length],.agg #[.int .i64 n.kind,.int .i64 n.a,.int .i64 n.b,.slice (some ⟨q,0,none⟩) n.nums.length n.nums.length]] w' (fun e w'' => e = .returned (.bool true) ∧ Below w'.heap.size w' w'') :=
    fun w' hb => eq_node n hnl p q _ _ w' (fun i h => by rw [lift hb _ (by rw [hA4 i h];rfl)];exact hA4 i h) (fun i h => by rw [lift hb _ (by rw [hB4 i h];rfl)];exact hB4 i h)
   clear h1 h2 hA hB hA3 hA4 hB3 hB4 hnum
   go_upto_region 6 with fail
   refine Qr.wp_below_all (by kernel_rfl) (by kernel_rfl) PhiE ?_
   repeat (first | (refine Qr.walk_plain rfl fun K hK => ?_;apply Qr.one_det;(focus (intro w' hw';have HK:=keep hkept hw';simp only [Kept,ka,kb,kc,kd,ke,and_true,true_and] at HK;go_simp;first | done | rfl));go_simp;refine hK _ ?_;clear hK K) | (refine Qr.walk_plain rfl fun K hK => ?_;apply Qr.one_call;(focus (intro w' hw';go_simp;first | done | exact ⟨rfl,rfl⟩));(focus (intro w' hw'; go_at_call 139;refine (hcall _ hw').mono ?_;rintro _ w2 ⟨rfl,hb1⟩;exact ⟨_,rfl,PhiE.yes _ _,below_step hw' (by assumption),by assumption⟩));intro v hv;cases hv;go_simp;refine hK _ ?_;clear hK K))
   refine Qr.walk_nil fun w6 hw6 => ?_
   go_wp2_with fail
   exact ⟨⟨m + 1,by omega,by simp,below_step Wb hw6⟩,by simp [intOf];omega⟩
  ·obtain rfl:m = ns.length:=by omega
   clear h1 h2 hnum
   go_wp2_with fail
   go_ret
   exact ⟨rfl,Wb⟩

set_option maxRecDepth 100000 in
set_option maxHeartbeats 2000000 in
theorem eq_shape (ns:List PN) (hlen:(ns.length:Int) ≤ 1048576) (hnum:∀ n ∈ ns,(n.nums.length:Int) ≤ 1048576) (G H gc hc:Nat) (w:World) (h1:∀ i (h:i < ns.length),NodeNew ns[i] G (0 + i * 4) w) (h2:∀ i (h:i < ns.length),NodeNew ns[i] H (0 + i * 4) w) :
  Calls Tryz.prog 19 #[.agg #[.slice (some ⟨G,0,none⟩) ns.length gc],.agg #[.slice (some ⟨H,0,none⟩) ns.length hc]] w (fun e w' => e = .returned (.bool true) ∧ Below w.heap.size w w'):=by
 have hcall:=fun w' (hb:Below w.heap.size w w') => eq_nodes ns hlen hnum G H gc hc w' (fun i h => (h1 i h).keep hb) (fun i h => (h2 i h).keep hb)
 clear h1 h2 hnum
 go_enter Tryz.func19,Tryz.ntmps19
 go_wp2_with (go_at_call 69;refine (hcall _ (by repeat' (first | exact Below.refl _ _ | exact Nat.le_refl _ | refine below_drewN ?_ _ | refine Below.alloc ?_ (by simp <;> omega) _ | refine Below.setCell ?_ (by simp <;> omega) _ | refine below_step ?_ (by assumption)))).mono ?_;rintro _ w2 ⟨rfl,hb2⟩)
 go_ret
 exact ⟨rfl,(by repeat' (first | exact Below.refl _ _ | exact Nat.le_refl _ | refine below_drewN ?_ _ | refine Below.alloc ?_ (by simp <;> omega) _ | refine Below.setCell ?_ (by simp <;> omega) _ | refine below_step ?_ (by assumption)))⟩
end Go.Proofs.YtbiacfkiakddiaaGreat

namespace Go.Proofs.YtbiacfkiakddiaaGreat
open Go.RowKit Go.Fl
theorem wid_same {u v a b:Nat} (h1:cn .f64 u = wid (cn .f32 a)) (h2:cn .f64 v = wid (cn .f32 b)) (h:cn .f32 a = cn .f32 b):cn .f64 u = cn .f64 v:=by rw [h1,h2,h]

set_option maxRecDepth 100000 in
set_option maxHeartbeats 1000000 in
theorem eq_vector (a b c a' b' c':Nat) (e1:cn .f32 a = cn .f32 a') (e2:cn .f32 b = cn .f32 b') (e3:cn .f32 c = cn .f32 c') (w:World) :
  Calls Tryz.prog 86 #[V3 a b c,V3 a' b' c'] w (fun e w' => e = .returned (.bool true) ∧ Below w.heap.size w w'):=by
 go_enter Tryz.func86,Tryz.ntmps86
 go_upto_region 1 with fail
 generalize hW:(w.alloc (.cells #[F1 a,F1 b,F1 c] 38)).alloc (.cells #[F1 a',F1 b',F1 c'] 38) = W1 at *
 have W1b:Below w.heap.size w W1:=by subst hW;exact (by repeat' (first | exact Below.refl _ _ | exact Nat.le_refl _ | refine below_drewN ?_ _ | refine Below.alloc ?_ (by simp <;> omega) _ | refine Below.setCell ?_ (by simp <;> omega) _ | refine below_step ?_ (by assumption)))
 have hkept:Kept [(⟨w.heap.size,0,none⟩,F1 a),(⟨w.heap.size,1,none⟩,F1 b),(⟨w.heap.size,2,none⟩,F1 c),(⟨w.heap.size + 1,0,none⟩,F1 a'),(⟨w.heap.size + 1,1,none⟩,F1 b'),(⟨w.heap.size + 1,2,none⟩,F1 c')] [] W1:=by
  subst hW;simp only [Kept,ka,kb,kc,kd,ke,and_true,true_and];(first | (go_simp;done) | (simp [World.cell?,World.frozen?,World.alloc,Array.getElem?_push];done))
 clear hW
 have hK:=hkept;simp only [Kept,ka,kb,kc,kd,ke,and_true,true_and] at hK
 go_wp2_with (first
  | (refine wp_wid rfl _ _ _ rfl _ rfl ?_ ?_ fitsW_all ?_;exact some_f32;exact Tryz.underlying89;intro r n hr)
  | (go_at_call 47;refine (same_float _ _ (wid_same (by assumption) (by assumption) (by first | exact e1 | exact e2 | exact e3)) _).mono ?_;rintro _ w6 ⟨rfl,hb1⟩;have hkept:=keepT hkept hb1 rfl;clear hK;have hK:=hkept;simp only [Kept,ka,kb,kc,kd,ke,and_true,true_and] at hK))
 go_ret
 exact ⟨rfl,(by repeat' (first | exact Below.refl _ _ | exact Nat.le_refl _ | refine Below.drew ?_ | refine below_drewN ?_ _ | refine Below.alloc ?_ (by simp <;> omega) _ | refine Below.setCell ?_ (by simp <;> omega) _ | refine below_step ?_ (by assumption)))⟩

end Go.Proofs.YtbiacfkiakddiaaGreat
