/-
 Lemmas: V12.
-/
import Derived.Test.YtbiacfkiakddiaaGreatMbj
set_option linter.unusedVariables false
set_option linter.unusedSimpArgs false
namespace Go.Proofs.YtbiacfkiakddiaaGreat
open Go.RowKit Go.Fl
inductive PhiTb:FuncId → Array Value → Value → Prop
 | long (a b c d e f l h:Nat) (q:(cn .f32 l,cn .f32 h) = longR (cn .f32 a,cn .f32 b) (cn .f32 c,cn .f32 d) (cn .f32 e,cn .f32 f)):PhiTb 220 #[RgV a b,RgV c d,RgV e f] (RgV l h)
 | down (a b v l h:Nat) (e:(cn .f32 l,cn .f32 h) = downR (cn .f32 a,cn .f32 b) (cn .f32 v)):PhiTb 208 #[RgV a b,F1 v] (RgV l h)
 | times (a b v l h:Nat) (e:(cn .f32 l,cn .f32 h) = timesR (cn .f32 a,cn .f32 b) (cn .f32 v)):PhiTb 212 #[RgV a b,F1 v] (RgV l h)
 | plus (a b c d l h:Nat) (e:(cn .f32 l,cn .f32 h) = plusR (cn .f32 a,cn .f32 b) (cn .f32 c,cn .f32 d)):PhiTb 213 #[RgV a b,RgV c d] (RgV l h)


set_option maxRecDepth 100000 in
set_option maxHeartbeats 2000000 in
theorem leafr_plane {b o bv ov cap r0 r1 r2 r3 x0 x1 y0 y1 z0 z1:Nat} {w:World} (hN:Kept [(⟨b,o,none⟩,.int .i64 4),(⟨b,o + 3,none⟩,.slice (some ⟨bv,ov,none⟩) 4 cap),(⟨bv,ov,none⟩,F1 r0),(⟨bv,ov + 1,none⟩,F1 r1),(⟨bv,ov + 2,none⟩,F1 r2),(⟨bv,ov + 3,none⟩,F1 r3)] [] w) :
  Calls Tryz.prog 135 #[.pointer (some ⟨b,o,none⟩),Rg3 x0 x1 y0 y1 z0 z1] w (RetR (leafG (fineR (cn .f32 x0,cn .f32 x1) && fineR (cn .f32 y0,cn .f32 y1) && fineR (cn .f32 z0,cn .f32 z1)) (downR (plusR (plusR (timesR (cn .f32 x0,cn .f32 x1) (cn .f32 r0)) (timesR (cn .f32 y0,cn .f32 y1) (cn .f32 r1))) (timesR (cn .f32 z0,cn .f32 z1) (cn .f32 r2))) (cn .f32 r3))) w):=by
 have hX:=fine_is x0 x1
 have hY:=fine_is y0 y1
 have hZ:=fine_is z0 z1
 generalize fineR (cn .f32 x0,cn .f32 x1) = FX at *
 generalize fineR (cn .f32 y0,cn .f32 y1) = FY at *
 generalize fineR (cn .f32 z0,cn .f32 z1) = FZ at *
 have hK:=hN
 simp only [Kept,ka,kb,kc,kd,ke,kf,kg] at hK
 have hb:b < w.heap.size:=some_lt (a:=⟨b,o,none⟩) (by rw [hK.1];rfl)
 go_enter Tryz.func135,Tryz.ntmps135
 go_upto_region 1 with fail
 clear hK
 generalize hW:(w.alloc (.cells #[F1 x0,F1 x1,F1 y0,F1 y1,F1 z0,F1 z1] 197)).alloc (.cells #[F1 0,F1 0] 118) = W1 at *
 have W1b:Below w.heap.size w W1:=by subst hW;exact (by repeat' (first | exact Below.refl _ _ | exact Nat.le_refl _ | refine below_drewN ?_ _ | refine Below.alloc ?_ (by simp <;> omega) _ | refine Below.setCell ?_ (by simp <;> omega) _ | refine below_step ?_ (by assumption)))
 have hkept:Kept [(⟨w.heap.size,0,none⟩,F1 x0),(⟨w.heap.size,1,none⟩,F1 x1),(⟨w.heap.size,2,none⟩,F1 y0),(⟨w.heap.size,3,none⟩,F1 y1),(⟨w.heap.size,4,none⟩,F1 z0),(⟨w.heap.size,5,none⟩,F1 z1),(⟨w.heap.size + 1,0,none⟩,F1 0),(⟨w.heap.size + 1,1,none⟩,F1 0)] [⟨w.heap.size + 1,0,none⟩,⟨w.heap.size + 1,1,none⟩] W1:=by
  subst hW;simp only [Kept,ka,kb,kc,kd,ke,kf,kg];(first | (go_simp;done) | (simp [World.cell?,World.frozen?,World.alloc,Array.getElem?_push];done))
 clear hW
 have hkept:=kept_app (keep hN W1b) hkept
 clear hN
 have hK:=hkept;simp only [Kept,ka,kb,kc,kd,ke,kf,kg] at hK
 have hb1:b < W1.heap.size:=Nat.lt_of_lt_of_le hb W1b.size
 go_upto_region 2 with fail
 have hbA:Below W1.heap.size W1 (W1.alloc (.cells #[.slice (some ⟨bv,ov,none⟩) 4 cap] 140)):=(Below.refl _ _).alloc (Nat.le_refl _) _
 have hkept:=kept_app (keep hkept hbA) (show Kept [(⟨W1.heap.size,0,none⟩,.slice (some ⟨bv,ov,none⟩) 4 cap)] [] (W1.alloc (.cells #[.slice (some ⟨bv,ov,none⟩) 4 cap] 140)) by simp only [Kept,ka,kb,kc,kd,ke,kf,kg];simp)
 have W2b:=below_step W1b hbA
 generalize W1.alloc (.cells #[.slice (some ⟨bv,ov,none⟩) 4 cap] 140) = W2 at *
 clear hK hbA
 have hK:=hkept;simp only [Kept,ka,kb,kc,kd,ke,kf,kg] at hK
 go_upto_region 3 with fail
 go_loopw [18] (fun i wr => ∃ m:Nat,i = .int .i64 (m:Int) ∧ (m = 0 ∨ (m = 1 ∧ FX = true) ∨ (m = 2 ∧ FX = true ∧ FY = true) ∨ (m = 3 ∧ FX = true ∧ FY = true ∧ FZ = true)) ∧ Below W2.heap.size W2 wr) (fun i _ => 3 - (intOf i).toNat)
 case atStart => exact ⟨0,rfl,.inl rfl,Below.refl _ _⟩
 case round =>
  obtain ⟨m,rfl,hm,hwr⟩:=hrel
  have hkept:=keep hkept hwr
  clear hK
  have hK:=hkept;simp only [Kept,ka,kb,kc,kd,ke,kf,kg] at hK
  have W3b:=below_step W2b hwr
  rcases hm with rfl | ⟨rfl,rfl⟩ | ⟨rfl,rfl,rfl⟩ | ⟨rfl,rfl,rfl,rfl⟩
  ·cases FX
   ·go_upto_region 4 with fail
    refine wp_region_lit ?_
    refine Fl.wp_op rfl (RgV x0 x1) wr (by kernel_rfl) ?_
    go_simp
    go_wp2_with (first | (go_at_call 204;refine (finite_any [x0,x1] (some ⟨_,0,none⟩) _ 0 2 _ (fun _ => rfl) ?_ (by simp)).mono ?_;(focus (intro i hi;have h3:i = 0 ∨ i = 1:=(by simp at hi;omega);rcases h3 with rfl | rfl <;> simp));rintro _ w8 ⟨rfl,hb1⟩;have hbx:=below_step ((hwr.alloc hwr.size _).alloc (Nat.le_trans hwr.size (by simp)) _) hb1;have hkept:=keepT (keep (keep hkept ((Below.refl _ _).alloc (Nat.le_refl _) _)) ((Below.refl _ _).alloc (Nat.le_refl _) _)) hb1 rfl;clear hK;have hK:=hkept;simp only [Kept,ka,kb,kc,kd,ke,kf,kg] at hK;rw [hX]) | (go_at_call 138;refine (anywhere_any _).mono ?_;rintro _ w9 ⟨l1,u1,rfl,e1,hb1⟩;have hbx:=below_step hbx hb1;have hkept:=keepT hkept hb1 rfl;clear hK;have hK:=hkept;simp only [Kept,ka,kb,kc,kd,ke,kf,kg] at hK))
    exact bodyPost_ret (v:=RgV l1 u1) (by simp [results,Tryz.results135,go_sem,hK,World.cell?_setCell_other,World.cell?_setCell_same'];first | done | exact ⟨rfl,rfl⟩) rfl ⟨_,_,rfl,by rw [e1];simp only [Bool.false_and,Bool.and_false,Bool.true_and];rfl,bel2 (below_step W2b hbx) (by omega) ..⟩
   ·go_upto_region 4 with fail
    refine wp_region_lit ?_
    refine Fl.wp_op rfl (RgV x0 x1) wr (by kernel_rfl) ?_
    go_simp
    go_wp2_with (first | (go_at_call 204;refine (finite_any [x0,x1] (some ⟨_,0,none⟩) _ 0 2 _ (fun _ => rfl) ?_ (by simp)).mono ?_;(focus (intro i hi;have h3:i = 0 ∨ i = 1:=(by simp at hi;omega);rcases h3 with rfl | rfl <;> simp));rintro _ w8 ⟨rfl,hb1⟩;have hbx:=below_step ((hwr.alloc hwr.size _).alloc (Nat.le_trans hwr.size (by simp)) _) hb1;have hkept:=keepT (keep (keep hkept ((Below.refl _ _).alloc (Nat.le_refl _) _)) ((Below.refl _ _).alloc (Nat.le_refl _) _)) hb1 rfl;clear hK;have hK:=hkept;simp only [Kept,ka,kb,kc,kd,ke,kf,kg] at hK;rw [hX]) | (go_at_call 138;refine (anywhere_any _).mono ?_;rintro _ w9 ⟨l1,u1,rfl,e1,hb1⟩;have hbx:=below_step hbx hb1;have hkept:=keepT hkept hb1 rfl;clear hK;have hK:=hkept;simp only [Kept,ka,kb,kc,kd,ke,kf,kg] at hK))
    exact ⟨⟨1,rfl,by simp,hbx⟩,by simp [intOf]⟩
  ·cases FY
   ·go_upto_region 4 with fail
    refine wp_region_lit ?_
    refine Fl.wp_op rfl (RgV y0 y1) wr (by kernel_rfl) ?_
    go_simp
    go_wp2_with (first | (go_at_call 204;refine (finite_any [y0,y1] (some ⟨_,0,none⟩) _ 0 2 _ (fun _ => rfl) ?_ (by simp)).mono ?_;(focus (intro i hi;have h3:i = 0 ∨ i = 1:=(by simp at hi;omega);rcases h3 with rfl | rfl <;> simp));rintro _ w8 ⟨rfl,hb1⟩;have hbx:=below_step ((hwr.alloc hwr.size _).alloc (Nat.le_trans hwr.size (by simp)) _) hb1;have hkept:=keepT (keep (keep hkept ((Below.refl _ _).alloc (Nat.le_refl _) _)) ((Below.refl _ _).alloc (Nat.le_refl _) _)) hb1 rfl;clear hK;have hK:=hkept;simp only [Kept,ka,kb,kc,kd,ke,kf,kg] at hK;rw [hY]) | (go_at_call 138;refine (anywhere_any _).mono ?_;rintro _ w9 ⟨l1,u1,rfl,e1,hb1⟩;have hbx:=below_step hbx hb1;have hkept:=keepT hkept hb1 rfl;clear hK;have hK:=hkept;simp only [Kept,ka,kb,kc,kd,ke,kf,kg] at hK))
    exact bodyPost_ret (v:=RgV l1 u1) (by simp [results,Tryz.results135,go_sem,hK,World.cell?_setCell_other,World.cell?_setCell_same'];first | done | exact ⟨rfl,rfl⟩) rfl ⟨_,_,rfl,by rw [e1];simp only [Bool.false_and,Bool.and_false,Bool.true_and];rfl,bel2 (below_step W2b hbx) (by omega) ..⟩
   ·go_upto_region 4 with fail
    refine wp_region_lit ?_
    refine Fl.wp_op rfl (RgV y0 y1) wr (by kernel_rfl) ?_
    go_simp
    go_wp2_with (first | (go_at_call 204;refine (finite_any [y0,y1] (some ⟨_,0,none⟩) _ 0 2 _ (fun _ => rfl) ?_ (by simp)).mono ?_;(focus (intro i hi;have h3:i = 0 ∨ i = 1:=(by simp at hi;omega);rcases h3 with rfl | rfl <;> simp));rintro _ w8 ⟨rfl,hb1⟩;have hbx:=below_step ((hwr.alloc hwr.size _).alloc (Nat.le_trans hwr.size (by simp)) _) hb1;have hkept:=keepT (keep (keep hkept ((Below.refl _ _).alloc (Nat.le_refl _) _)) ((Below.refl _ _).alloc (Nat.le_refl _) _)) hb1 rfl;clear hK;have hK:=hkept;simp only [Kept,ka,kb,kc,kd,ke,kf,kg] at hK;rw [hY]) | (go_at_call 138;refine (anywhere_any _).mono ?_;rintro _ w9 ⟨l1,u1,rfl,e1,hb1⟩;have hbx:=below_step hbx hb1;have hkept:=keepT hkept hb1 rfl;clear hK;have hK:=hkept;simp only [Kept,ka,kb,kc,kd,ke,kf,kg] at hK))
    exact ⟨⟨2,rfl,by simp,hbx⟩,by simp [intOf]⟩
  ·cases FZ
   ·go_upto_region 4 with fail
    refine wp_region_lit ?_
    refine Fl.wp_op rfl (RgV z0 z1) wr (by kernel_rfl) ?_
    go_simp
    go_wp2_with (first | (go_at_call 204;refine (finite_any [z0,z1] (some ⟨_,0,none⟩) _ 0 2 _ (fun _ => rfl) ?_ (by simp)).mono ?_;(focus (intro i hi;have h3:i = 0 ∨ i = 1:=(by simp at hi;omega);rcases h3 with rfl | rfl <;> simp));rintro _ w8 ⟨rfl,hb1⟩;have hbx:=below_step ((hwr.alloc hwr.size _).alloc (Nat.le_trans hwr.size (by simp)) _) hb1;have hkept:=keepT (keep (keep hkept ((Below.refl _ _).alloc (Nat.le_refl _) _)) ((Below.refl _ _).alloc (Nat.le_refl _) _)) hb1 rfl;clear hK;have hK:=hkept;simp only [Kept,ka,kb,kc,kd,ke,kf,kg] at hK;rw [hZ]) | (go_at_call 138;refine (anywhere_any _).mono ?_;rintro _ w9 ⟨l1,u1,rfl,e1,hb1⟩;have hbx:=below_step hbx hb1;have hkept:=keepT hkept hb1 rfl;clear hK;have hK:=hkept;simp only [Kept,ka,kb,kc,kd,ke,kf,kg] at hK))
    exact bodyPost_ret (v:=RgV l1 u1) (by simp [results,Tryz.results135,go_sem,hK,World.cell?_setCell_other,World.cell?_setCell_same'];first | done | exact ⟨rfl,rfl⟩) rfl ⟨_,_,rfl,by rw [e1];simp only [Bool.false_and,Bool.and_false,Bool.true_and];rfl,bel2 (below_step W2b hbx) (by omega) ..⟩
   ·go_upto_region 4 with fail
    refine wp_region_lit ?_
    refine Fl.wp_op rfl (RgV z0 z1) wr (by kernel_rfl) ?_
    go_simp
    go_wp2_with (first | (go_at_call 204;refine (finite_any [z0,z1] (some ⟨_,0,none⟩) _ 0 2 _ (fun _ => rfl) ?_ (by simp)).mono ?_;(focus (intro i hi;have h3:i = 0 ∨ i = 1:=(by simp at hi;omega);rcases h3 with rfl | rfl <;> simp));rintro _ w8 ⟨rfl,hb1⟩;have hbx:=below_step ((hwr.alloc hwr.size _).alloc (Nat.le_trans hwr.size (by simp)) _) hb1;have hkept:=keepT (keep (keep hkept ((Below.refl _ _).alloc (Nat.le_refl _) _)) ((Below.refl _ _).alloc (Nat.le_refl _) _)) hb1 rfl;clear hK;have hK:=hkept;simp only [Kept,ka,kb,kc,kd,ke,kf,kg] at hK;rw [hZ]) | (go_at_call 138;refine (anywhere_any _).mono ?_;rintro _ w9 ⟨l1,u1,rfl,e1,hb1⟩;have hbx:=below_step hbx hb1;have hkept:=keepT hkept hb1 rfl;clear hK;have hK:=hkept;simp only [Kept,ka,kb,kc,kd,ke,kf,kg] at hK))
    exact ⟨⟨3,rfl,by simp,hbx⟩,by simp [intOf]⟩
  ·clear hX hY hZ
   go_upto_region 19 with fail
   refine Qr.wp_below 24 (by kernel_rfl) (by kernel_rfl) PhiTb ?_
   repeat (first | (refine Qr.walk_plain rfl fun K hK => ?_;refine one_bin _ _ _ _ _ rfl _ _ _ rfl rfl rfl (fun r hr => ?_);go_simp;refine hK _ ?_;clear hK K) | (refine Qr.walk_plain rfl fun K hK => ?_;apply Qr.one_det;(focus (intro w' hw';have HK:=keep hkept hw';simp only [Kept,ka,kb,kc,kd,ke,kf,kg] at HK;go_simp;first | done | rfl));go_simp;refine hK _ ?_;clear hK K) | (refine Qr.walk_plain rfl fun K hK => ?_;apply Qr.one_call;(focus (intro w' hw';go_simp;first | done | exact ⟨rfl,rfl⟩));(focus (intro w' hw'; go_at_call 220;refine (longr_any _ _ _ _ _ _ _).mono ?_;rintro _ w2 ⟨l1,u1,rfl,hr1,hb1⟩ ;exact ⟨_,rfl,by constructor <;> assumption,below_step hw' (by assumption),by assumption⟩));intro v hv;cases hv;go_simp;refine hK _ ?_;clear hK K) | (refine Qr.walk_plain rfl fun K hK => ?_;apply Qr.one_call;(focus (intro w' hw';go_simp;first | done | exact ⟨rfl,rfl⟩));(focus (intro w' hw'; go_at_call 208;refine (down_any _ _ _ _).mono ?_;rintro _ w2 ⟨l1,u1,rfl,hr1,hb1⟩ ;exact ⟨_,rfl,by constructor <;> assumption,below_step hw' (by assumption),by assumption⟩));intro v hv;cases hv;go_simp;refine hK _ ?_;clear hK K) | (refine Qr.walk_plain rfl fun K hK => ?_;apply Qr.one_call;(focus (intro w' hw';go_simp;first | done | exact ⟨rfl,rfl⟩));(focus (intro w' hw'; go_at_call 212;refine (times_any _ _ _ _).mono ?_;rintro _ w2 ⟨l1,u1,rfl,hr1,hb1⟩ ;exact ⟨_,rfl,by constructor <;> assumption,below_step hw' (by assumption),by assumption⟩));intro v hv;cases hv;go_simp;refine hK _ ?_;clear hK K) | (refine Qr.walk_plain rfl fun K hK => ?_;apply Qr.one_call;(focus (intro w' hw';go_simp;first | done | exact ⟨rfl,rfl⟩));(focus (intro w' hw'; go_at_call 213;refine (plus_any _ _ _ _ _).mono ?_;rintro _ w2 ⟨l1,u1,rfl,hr1,hb1⟩ ;exact ⟨_,rfl,by constructor <;> assumption,below_step hw' (by assumption),by assumption⟩));intro v hv;cases hv;go_simp;refine hK _ ?_;clear hK K))
   rename_i l1 u1 h1 l2 u2 h2 l3 u3 h3 l4 u4 h4 l5 u5 h5 q1 q2 h6
   refine Qr.walk_nil fun w8 hw8 => ?_
   have hkept:=keep hkept hw8
   have W8b:=below_step W3b hw8
   clear hK
   have hK:=hkept
   simp only [Kept,ka,kb,kc,kd,ke,kf,kg] at hK
   go_wp2_with fail
   exact bodyPost_ret (v:=RgV q1 q2) (by simp [results,Tryz.results135,go_sem,hK,World.cell?_setCell_other,World.cell?_setCell_same'];first | done | exact ⟨rfl,rfl⟩) rfl ⟨_,_,rfl,by rw [h6,h5,h4,h3,h2,h1];simp only [leafG,Bool.and_self,if_true],bel2 W8b (by omega) ..⟩

set_option maxRecDepth 100000 in
set_option maxHeartbeats 2000000 in
theorem leafr_ring {b o bv ov cap r0 r1 x0 x1 y0 y1 z0 z1:Nat} {w:World} (hN:Kept [(⟨b,o,none⟩,.int .i64 3),(⟨b,o + 3,none⟩,.slice (some ⟨bv,ov,none⟩) 2 cap),(⟨bv,ov,none⟩,F1 r0),(⟨bv,ov + 1,none⟩,F1 r1)] [] w) :
  Calls Tryz.prog 135 #[.pointer (some ⟨b,o,none⟩),Rg3 x0 x1 y0 y1 z0 z1] w (RetR (leafG (fineR (cn .f32 x0,cn .f32 x1) && fineR (cn .f32 y0,cn .f32 y1) && fineR (cn .f32 z0,cn .f32 z1)) (downR (longR (downR (longR (cn .f32 x0,cn .f32 x1) (cn .f32 0,cn .f32 0) (cn .f32 z0,cn .f32 z1)) (cn .f32 r0)) (cn .f32 y0,cn .f32 y1) (cn .f32 0,cn .f32 0)) (cn .f32 r1))) w):=by
 have hX:=fine_is x0 x1
 have hY:=fine_is y0 y1
 have hZ:=fine_is z0 z1
 generalize fineR (cn .f32 x0,cn .f32 x1) = FX at *
 generalize fineR (cn .f32 y0,cn .f32 y1) = FY at *
 generalize fineR (cn .f32 z0,cn .f32 z1) = FZ at *
 have hK:=hN
 simp only [Kept,ka,kb,kc,kd,ke,kf,kg] at hK
 have hb:b < w.heap.size:=some_lt (a:=⟨b,o,none⟩) (by rw [hK.1];rfl)
 go_enter Tryz.func135,Tryz.ntmps135
 go_upto_region 1 with fail
 clear hK
 generalize hW:(w.alloc (.cells #[F1 x0,F1 x1,F1 y0,F1 y1,F1 z0,F1 z1] 197)).alloc (.cells #[F1 0,F1 0] 118) = W1 at *
 have W1b:Below w.heap.size w W1:=by subst hW;exact (by repeat' (first | exact Below.refl _ _ | exact Nat.le_refl _ | refine below_drewN ?_ _ | refine Below.alloc ?_ (by simp <;> omega) _ | refine Below.setCell ?_ (by simp <;> omega) _ | refine below_step ?_ (by assumption)))
 have hkept:Kept [(⟨w.heap.size,0,none⟩,F1 x0),(⟨w.heap.size,1,none⟩,F1 x1),(⟨w.heap.size,2,none⟩,F1 y0),(⟨w.heap.size,3,none⟩,F1 y1),(⟨w.heap.size,4,none⟩,F1 z0),(⟨w.heap.size,5,none⟩,F1 z1),(⟨w.heap.size + 1,0,none⟩,F1 0),(⟨w.heap.size + 1,1,none⟩,F1 0)] [⟨w.heap.size + 1,0,none⟩,⟨w.heap.size + 1,1,none⟩] W1:=by
  subst hW;simp only [Kept,ka,kb,kc,kd,ke,kf,kg];(first | (go_simp;done) | (simp [World.cell?,World.frozen?,World.alloc,Array.getElem?_push];done))
 clear hW
 have hkept:=kept_app (keep hN W1b) hkept
 clear hN
 have hK:=hkept;simp only [Kept,ka,kb,kc,kd,ke,kf,kg] at hK
 have hb1:b < W1.heap.size:=Nat.lt_of_lt_of_le hb W1b.size
 go_upto_region 2 with fail
 have hbA:Below W1.heap.size W1 (W1.alloc (.cells #[.slice (some ⟨bv,ov,none⟩) 2 cap] 140)):=(Below.refl _ _).alloc (Nat.le_refl _) _
 have hkept:=kept_app (keep hkept hbA) (show Kept [(⟨W1.heap.size,0,none⟩,.slice (some ⟨bv,ov,none⟩) 2 cap)] [] (W1.alloc (.cells #[.slice (some ⟨bv,ov,none⟩) 2 cap] 140)) by simp only [Kept,ka,kb,kc,kd,ke,kf,kg];simp)
 have W2b:=below_step W1b hbA
 generalize W1.alloc (.cells #[.slice (some ⟨bv,ov,none⟩) 2 cap] 140) = W2 at *
 clear hK hbA
 have hK:=hkept;simp only [Kept,ka,kb,kc,kd,ke,kf,kg] at hK
 go_upto_region 3 with fail
 go_loopw [18] (fun i wr => ∃ m:Nat,i = .int .i64 (m:Int) ∧ (m = 0 ∨ (m = 1 ∧ FX = true) ∨ (m = 2 ∧ FX = true ∧ FY = true) ∨ (m = 3 ∧ FX = true ∧ FY = true ∧ FZ = true)) ∧ Below W2.heap.size W2 wr) (fun i _ => 3 - (intOf i).toNat)
 case atStart => exact ⟨0,rfl,.inl rfl,Below.refl _ _⟩
 case round =>
  obtain ⟨m,rfl,hm,hwr⟩:=hrel
  have hkept:=keep hkept hwr
  clear hK
  have hK:=hkept;simp only [Kept,ka,kb,kc,kd,ke,kf,kg] at hK
  have W3b:=below_step W2b hwr
  rcases hm with rfl | ⟨rfl,rfl⟩ | ⟨rfl,rfl,rfl⟩ | ⟨rfl,rfl,rfl,rfl⟩
  ·cases FX
   ·go_upto_region 4 with fail
    refine wp_region_lit ?_
    refine Fl.wp_op rfl (RgV x0 x1) wr (by kernel_rfl) ?_
    go_simp
    go_wp2_with (first | (go_at_call 204;refine (finite_any [x0,x1] (some ⟨_,0,none⟩) _ 0 2 _ (fun _ => rfl) ?_ (by simp)).mono ?_;(focus (intro i hi;have h3:i = 0 ∨ i = 1:=(by simp at hi;omega);rcases h3 with rfl | rfl <;> simp));rintro _ w8 ⟨rfl,hb1⟩;have hbx:=below_step ((hwr.alloc hwr.size _).alloc (Nat.le_trans hwr.size (by simp)) _) hb1;have hkept:=keepT (keep (keep hkept ((Below.refl _ _).alloc (Nat.le_refl _) _)) ((Below.refl _ _).alloc (Nat.le_refl _) _)) hb1 rfl;clear hK;have hK:=hkept;simp only [Kept,ka,kb,kc,kd,ke,kf,kg] at hK;rw [hX]) | (go_at_call 138;refine (anywhere_any _).mono ?_;rintro _ w9 ⟨l1,u1,rfl,e1,hb1⟩;have hbx:=below_step hbx hb1;have hkept:=keepT hkept hb1 rfl;clear hK;have hK:=hkept;simp only [Kept,ka,kb,kc,kd,ke,kf,kg] at hK))
    exact bodyPost_ret (v:=RgV l1 u1) (by simp [results,Tryz.results135,go_sem,hK,World.cell?_setCell_other,World.cell?_setCell_same'];first | done | exact ⟨rfl,rfl⟩) rfl ⟨_,_,rfl,by rw [e1];simp only [Bool.false_and,Bool.and_false,Bool.true_and];rfl,bel2 (below_step W2b hbx) (by omega) ..⟩
   ·go_upto_region 4 with fail
    refine wp_region_lit ?_
    refine Fl.wp_op rfl (RgV x0 x1) wr (by kernel_rfl) ?_
    go_simp
    go_wp2_with (first | (go_at_call 204;refine (finite_any [x0,x1] (some ⟨_,0,none⟩) _ 0 2 _ (fun _ => rfl) ?_ (by simp)).mono ?_;(focus (intro i hi;have h3:i = 0 ∨ i = 1:=(by simp at hi;omega);rcases h3 with rfl | rfl <;> simp));rintro _ w8 ⟨rfl,hb1⟩;have hbx:=below_step ((hwr.alloc hwr.size _).alloc (Nat.le_trans hwr.size (by simp)) _) hb1;have hkept:=keepT (keep (keep hkept ((Below.refl _ _).alloc (Nat.le_refl _) _)) ((Below.refl _ _).alloc (Nat.le_refl _) _)) hb1 rfl;clear hK;have hK:=hkept;simp only [Kept,ka,kb,kc,kd,ke,kf,kg] at hK;rw [hX]) | (go_at_call 138;refine (anywhere_any _).mono ?_;rintro _ w9 ⟨l1,u1,rfl,e1,hb1⟩;have hbx:=below_step hbx hb1;have hkept:=keepT hkept hb1 rfl;clear hK;have hK:=hkept;simp only [Kept,ka,kb,kc,kd,ke,kf,kg] at hK))
    exact ⟨⟨1,rfl,by simp,hbx⟩,by simp [intOf]⟩
  ·cases FY
   ·go_upto_region 4 with fail
    refine wp_region_lit ?_
    refine Fl.wp_op rfl (RgV y0 y1) wr (by kernel_rfl) ?_
    go_simp
    go_wp2_with (first | (go_at_call 204;refine (finite_any [y0,y1] (some ⟨_,0,none⟩) _ 0 2 _ (fun _ => rfl) ?_ (by simp)).mono ?_;(focus (intro i hi;have h3:i = 0 ∨ i = 1:=(by simp at hi;omega);rcases h3 with rfl | rfl <;> simp));rintro _ w8 ⟨rfl,hb1⟩;have hbx:=below_step ((hwr.alloc hwr.size _).alloc (Nat.le_trans hwr.size (by simp)) _) hb1;have hkept:=keepT (keep (keep hkept ((Below.refl _ _).alloc (Nat.le_refl _) _)) ((Below.refl _ _).alloc (Nat.le_refl _) _)) hb1 rfl;clear hK;have hK:=hkept;simp only [Kept,ka,kb,kc,kd,ke,kf,kg] at hK;rw [hY]) | (go_at_call 138;refine (anywhere_any _).mono ?_;rintro _ w9 ⟨l1,u1,rfl,e1,hb1⟩;have hbx:=below_step hbx hb1;have hkept:=keepT hkept hb1 rfl;clear hK;have hK:=hkept;simp only [Kept,ka,kb,kc,kd,ke,kf,kg] at hK))
    exact bodyPost_ret (v:=RgV l1 u1) (by simp [results,Tryz.results135,go_sem,hK,World.cell?_setCell_other,World.cell?_setCell_same'];first | done | exact ⟨rfl,rfl⟩) rfl ⟨_,_,rfl,by rw [e1];simp only [Bool.false_and,Bool.and_false,Bool.true_and];rfl,bel2 (below_step W2b hbx) (by omega) ..⟩
   ·go_upto_region 4 with fail
    refine wp_region_lit ?_
    refine Fl.wp_op rfl (RgV y0 y1) wr (by kernel_rfl) ?_
    go_simp
    go_wp2_with (first | (go_at_call 204;refine (finite_any [y0,y1] (some ⟨_,0,none⟩) _ 0 2 _ (fun _ => rfl) ?_ (by simp)).mono ?_;(focus (intro i hi;have h3:i = 0 ∨ i = 1:=(by simp at hi;omega);rcases h3 with rfl | rfl <;> simp));rintro _ w8 ⟨rfl,hb1⟩;have hbx:=below_step ((hwr.alloc hwr.size _).alloc (Nat.le_trans hwr.size (by simp)) _) hb1;have hkept:=keepT (keep (keep hkept ((Below.refl _ _).alloc (Nat.le_refl _) _)) ((Below.refl _ _).alloc (Nat.le_refl _) _)) hb1 rfl;clear hK;have hK:=hkept;simp only [Kept,ka,kb,kc,kd,ke,kf,kg] at hK;rw [hY]) | (go_at_call 138;refine (anywhere_any _).mono ?_;rintro _ w9 ⟨l1,u1,rfl,e1,hb1⟩;have hbx:=below_step hbx hb1;have hkept:=keepT hkept hb1 rfl;clear hK;have hK:=hkept;simp only [Kept,ka,kb,kc,kd,ke,kf,kg] at hK))
    exact ⟨⟨2,rfl,by simp,hbx⟩,by simp [intOf]⟩
  ·cases FZ
   ·go_upto_region 4 with fail
    refine wp_region_lit ?_
    refine Fl.wp_op rfl (RgV z0 z1) wr (by kernel_rfl) ?_
    go_simp
    go_wp2_with (first | (go_at_call 204;refine (finite_any [z0,z1] (some ⟨_,0,none⟩) _ 0 2 _ (fun _ => rfl) ?_ (by simp)).mono ?_;(focus (intro i hi;have h3:i = 0 ∨ i = 1:=(by simp at hi;omega);rcases h3 with rfl | rfl <;> simp));rintro _ w8 ⟨rfl,hb1⟩;have hbx:=below_step ((hwr.alloc hwr.size _).alloc (Nat.le_trans hwr.size (by simp)) _) hb1;have hkept:=keepT (keep (keep hkept ((Below.refl _ _).alloc (Nat.le_refl _) _)) ((Below.refl _ _).alloc (Nat.le_refl _) _)) hb1 rfl;clear hK;have hK:=hkept;simp only [Kept,ka,kb,kc,kd,ke,kf,kg] at hK;rw [hZ]) | (go_at_call 138;refine (anywhere_any _).mono ?_;rintro _ w9 ⟨l1,u1,rfl,e1,hb1⟩;have hbx:=below_step hbx hb1;have hkept:=keepT hkept hb1 rfl;clear hK;have hK:=hkept;simp only [Kept,ka,kb,kc,kd,ke,kf,kg] at hK))
    exact bodyPost_ret (v:=RgV l1 u1) (by simp [results,Tryz.results135,go_sem,hK,World.cell?_setCell_other,World.cell?_setCell_same'];first | done | exact ⟨rfl,rfl⟩) rfl ⟨_,_,rfl,by rw [e1];simp only [Bool.false_and,Bool.and_false,Bool.true_and];rfl,bel2 (below_step W2b hbx) (by omega) ..⟩
   ·go_upto_region 4 with fail
    refine wp_region_lit ?_
    refine Fl.wp_op rfl (RgV z0 z1) wr (by kernel_rfl) ?_
    go_simp
    go_wp2_with (first | (go_at_call 204;refine (finite_any [z0,z1] (some ⟨_,0,none⟩) _ 0 2 _ (fun _ => rfl) ?_ (by simp)).mono ?_;(focus (intro i hi;have h3:i = 0 ∨ i = 1:=(by simp at hi;omega);rcases h3 with rfl | rfl <;> simp));rintro _ w8 ⟨rfl,hb1⟩;have hbx:=below_step ((hwr.alloc hwr.size _).alloc (Nat.le_trans hwr.size (by simp)) _) hb1;have hkept:=keepT (keep (keep hkept ((Below.refl _ _).alloc (Nat.le_refl _) _)) ((Below.refl _ _).alloc (Nat.le_refl _) _)) hb1 rfl;clear hK;have hK:=hkept;simp only [Kept,ka,kb,kc,kd,ke,kf,kg] at hK;rw [hZ]) | (go_at_call 138;refine (anywhere_any _).mono ?_;rintro _ w9 ⟨l1,u1,rfl,e1,hb1⟩;have hbx:=below_step hbx hb1;have hkept:=keepT hkept hb1 rfl;clear hK;have hK:=hkept;simp only [Kept,ka,kb,kc,kd,ke,kf,kg] at hK))
    exact ⟨⟨3,rfl,by simp,hbx⟩,by simp [intOf]⟩
  ·clear hX hY hZ
   go_upto_region 17 with fail
   refine Qr.wp_made 11 10 12 #[F1 0,F1 0] 118 (by kernel_rfl) (by kernel_rfl) PhiTb rfl (by kernel_rfl) ⟨_,rfl,rfl,fun a w => by go_simp⟩ (by kernel_rfl) ?_
   repeat (first | (refine Qr.walk_plain rfl fun K hK => ?_;refine Qr.one_rel (fun v => ∃ g,v = .pointer (some ⟨g,0,none⟩)) (fun w' hw' => ⟨.pointer (some ⟨w'.heap.size,0,none⟩),_,by go_simp;rfl,⟨_,rfl⟩,hw'.alloc hw'.size _,(Below.refl _ _).alloc (Nat.le_refl _) _⟩) (fun v hv => ?_);obtain ⟨g,rfl⟩:=hv;go_simp;refine hK _ ?_;clear hK K) | (first | (refine Qr.walk_plain rfl fun K hK => ?_;refine one_bin _ _ _ _ _ rfl _ _ _ rfl rfl rfl (fun r hr => ?_);go_simp;refine hK _ ?_;clear hK K) | (refine Qr.walk_plain rfl fun K hK => ?_;apply Qr.one_det;(focus (intro w' hw';have HK:=keep hkept hw';simp only [Kept,ka,kb,kc,kd,ke,kf,kg] at HK;go_simp;first | done | rfl));go_simp;refine hK _ ?_;clear hK K) | (refine Qr.walk_plain rfl fun K hK => ?_;apply Qr.one_call;(focus (intro w' hw';go_simp;first | done | exact ⟨rfl,rfl⟩));(focus (intro w' hw'; go_at_call 220;refine (longr_any _ _ _ _ _ _ _).mono ?_;rintro _ w2 ⟨l1,u1,rfl,hr1,hb1⟩ ;exact ⟨_,rfl,by constructor <;> assumption,below_step hw' (by assumption),by assumption⟩));intro v hv;cases hv;go_simp;refine hK _ ?_;clear hK K) | (refine Qr.walk_plain rfl fun K hK => ?_;apply Qr.one_call;(focus (intro w' hw';go_simp;first | done | exact ⟨rfl,rfl⟩));(focus (intro w' hw'; go_at_call 208;refine (down_any _ _ _ _).mono ?_;rintro _ w2 ⟨l1,u1,rfl,hr1,hb1⟩ ;exact ⟨_,rfl,by constructor <;> assumption,below_step hw' (by assumption),by assumption⟩));intro v hv;cases hv;go_simp;refine hK _ ?_;clear hK K) | (refine Qr.walk_plain rfl fun K hK => ?_;apply Qr.one_call;(focus (intro w' hw';go_simp;first | done | exact ⟨rfl,rfl⟩));(focus (intro w' hw'; go_at_call 212;refine (times_any _ _ _ _).mono ?_;rintro _ w2 ⟨l1,u1,rfl,hr1,hb1⟩ ;exact ⟨_,rfl,by constructor <;> assumption,below_step hw' (by assumption),by assumption⟩));intro v hv;cases hv;go_simp;refine hK _ ?_;clear hK K) | (refine Qr.walk_plain rfl fun K hK => ?_;apply Qr.one_call;(focus (intro w' hw';go_simp;first | done | exact ⟨rfl,rfl⟩));(focus (intro w' hw'; go_at_call 213;refine (plus_any _ _ _ _ _).mono ?_;rintro _ w2 ⟨l1,u1,rfl,hr1,hb1⟩ ;exact ⟨_,rfl,by constructor <;> assumption,below_step hw' (by assumption),by assumption⟩));intro v hv;cases hv;go_simp;refine hK _ ?_;clear hK K)))
   rename_i l1 u1 e1 l2 u2 e2
   refine Qr.walk_nil fun w3 hw3 hmade => ?_
   obtain ⟨g3,hg3,hgw,hgc⟩:=hmade _ rfl
   injection hg3 with hg3
   injection hg3 with hg3
   subst hg3
   obtain ⟨hc0,hc1,hf0,hf1⟩:=cells2 hgc
   have hset:=set2 hgc (F1 l2) (F1 u2)
   have hbw:=hw3.trans (hset.2.mono hgw)
   go_upto_region 18 with fail
   clear hc0 hc1 hf0 hf1 hgc hw3
   generalize (w3.setCell ⟨g,0,none⟩ (F1 l2)).setCell ⟨g,1,none⟩ (F1 u2) = w4 at hset hbw ⊢
   have hkept:=kept_app (keep hkept hbw) (kept2 hset.1)
   have W4b:=below_step W3b hbw
   clear hset hbw hK
   have hK:=hkept;simp only [Kept,ka,kb,kc,kd,ke,kf,kg] at hK
   refine Qr.wp_below 9 (by kernel_rfl) (by kernel_rfl) PhiTb ?_
   repeat (first | (refine Qr.walk_plain rfl fun K hK => ?_;refine one_bin _ _ _ _ _ rfl _ _ _ rfl rfl rfl (fun r hr => ?_);go_simp;refine hK _ ?_;clear hK K) | (refine Qr.walk_plain rfl fun K hK => ?_;apply Qr.one_det;(focus (intro w' hw';have HK:=keep hkept hw';simp only [Kept,ka,kb,kc,kd,ke,kf,kg] at HK;go_simp;first | done | rfl));go_simp;refine hK _ ?_;clear hK K) | (refine Qr.walk_plain rfl fun K hK => ?_;apply Qr.one_call;(focus (intro w' hw';go_simp;first | done | exact ⟨rfl,rfl⟩));(focus (intro w' hw'; go_at_call 220;refine (longr_any _ _ _ _ _ _ _).mono ?_;rintro _ w2 ⟨l1,u1,rfl,hr1,hb1⟩ ;exact ⟨_,rfl,by constructor <;> assumption,below_step hw' (by assumption),by assumption⟩));intro v hv;cases hv;go_simp;refine hK _ ?_;clear hK K) | (refine Qr.walk_plain rfl fun K hK => ?_;apply Qr.one_call;(focus (intro w' hw';go_simp;first | done | exact ⟨rfl,rfl⟩));(focus (intro w' hw'; go_at_call 208;refine (down_any _ _ _ _).mono ?_;rintro _ w2 ⟨l1,u1,rfl,hr1,hb1⟩ ;exact ⟨_,rfl,by constructor <;> assumption,below_step hw' (by assumption),by assumption⟩));intro v hv;cases hv;go_simp;refine hK _ ?_;clear hK K) | (refine Qr.walk_plain rfl fun K hK => ?_;apply Qr.one_call;(focus (intro w' hw';go_simp;first | done | exact ⟨rfl,rfl⟩));(focus (intro w' hw'; go_at_call 212;refine (times_any _ _ _ _).mono ?_;rintro _ w2 ⟨l1,u1,rfl,hr1,hb1⟩ ;exact ⟨_,rfl,by constructor <;> assumption,below_step hw' (by assumption),by assumption⟩));intro v hv;cases hv;go_simp;refine hK _ ?_;clear hK K) | (refine Qr.walk_plain rfl fun K hK => ?_;apply Qr.one_call;(focus (intro w' hw';go_simp;first | done | exact ⟨rfl,rfl⟩));(focus (intro w' hw'; go_at_call 213;refine (plus_any _ _ _ _ _).mono ?_;rintro _ w2 ⟨l1,u1,rfl,hr1,hb1⟩ ;exact ⟨_,rfl,by constructor <;> assumption,below_step hw' (by assumption),by assumption⟩));intro v hv;cases hv;go_simp;refine hK _ ?_;clear hK K))
   rename_i l3 u3 e3 q1 q2 e4
   refine Qr.walk_nil fun w8 hw8 => ?_
   have hkept:=keep hkept hw8
   have W8b:=below_step W4b hw8
   clear hK
   have hK:=hkept
   simp only [Kept,ka,kb,kc,kd,ke,kf,kg] at hK
   go_wp2_with fail
   exact bodyPost_ret (v:=RgV q1 q2) (by simp [results,Tryz.results135,go_sem,hK,World.cell?_setCell_other,World.cell?_setCell_same'];first | done | exact ⟨rfl,rfl⟩) rfl ⟨_,_,rfl,by rw [e4,e3,e2,e1];simp only [leafG,Bool.and_self,if_true],bel2 W8b (by omega) ..⟩

set_option maxRecDepth 100000 in
set_option maxHeartbeats 2000000 in
theorem leafr_tube {b o bv ov cap r0 r1 x0 x1 y0 y1 z0 z1:Nat} {w:World} (hN:Kept [(⟨b,o,none⟩,.int .i64 2),(⟨b,o + 3,none⟩,.slice (some ⟨bv,ov,none⟩) 2 cap),(⟨bv,ov,none⟩,F1 r0),(⟨bv,ov + 1,none⟩,F1 r1)] [] w) :
  Calls Tryz.prog 135 #[.pointer (some ⟨b,o,none⟩),Rg3 x0 x1 y0 y1 z0 z1] w (RetR (leafG (fineR (cn .f32 x0,cn .f32 x1) && fineR (cn .f32 y0,cn .f32 y1) && fineR (cn .f32 z0,cn .f32 z1)) (downR (longR (cn .f32 x0,cn .f32 x1) (bothR (fun y => shortF y (cn .f32 r0)) (cn .f32 y0,cn .f32 y1)) (cn .f32 z0,cn .f32 z1)) (cn .f32 r1))) w):=by
 have hX:=fine_is x0 x1
 have hY:=fine_is y0 y1
 have hZ:=fine_is z0 z1
 generalize fineR (cn .f32 x0,cn .f32 x1) = FX at *
 generalize fineR (cn .f32 y0,cn .f32 y1) = FY at *
 generalize fineR (cn .f32 z0,cn .f32 z1) = FZ at *
 have hK:=hN
 simp only [Kept,ka,kb,kc,kd,ke,kf,kg] at hK
 have hb:b < w.heap.size:=some_lt (a:=⟨b,o,none⟩) (by rw [hK.1];rfl)
 go_enter Tryz.func135,Tryz.ntmps135
 go_upto_region 1 with fail
 clear hK
 generalize hW:(w.alloc (.cells #[F1 x0,F1 x1,F1 y0,F1 y1,F1 z0,F1 z1] 197)).alloc (.cells #[F1 0,F1 0] 118) = W1 at *
 have W1b:Below w.heap.size w W1:=by subst hW;exact (by repeat' (first | exact Below.refl _ _ | exact Nat.le_refl _ | refine below_drewN ?_ _ | refine Below.alloc ?_ (by simp <;> omega) _ | refine Below.setCell ?_ (by simp <;> omega) _ | refine below_step ?_ (by assumption)))
 have hkept:Kept [(⟨w.heap.size,0,none⟩,F1 x0),(⟨w.heap.size,1,none⟩,F1 x1),(⟨w.heap.size,2,none⟩,F1 y0),(⟨w.heap.size,3,none⟩,F1 y1),(⟨w.heap.size,4,none⟩,F1 z0),(⟨w.heap.size,5,none⟩,F1 z1),(⟨w.heap.size + 1,0,none⟩,F1 0),(⟨w.heap.size + 1,1,none⟩,F1 0)] [⟨w.heap.size + 1,0,none⟩,⟨w.heap.size + 1,1,none⟩] W1:=by
  subst hW;simp only [Kept,ka,kb,kc,kd,ke,kf,kg];(first | (go_simp;done) | (simp [World.cell?,World.frozen?,World.alloc,Array.getElem?_push];done))
 clear hW
 have hkept:=kept_app (keep hN W1b) hkept
 clear hN
 have hK:=hkept;simp only [Kept,ka,kb,kc,kd,ke,kf,kg] at hK
 have hb1:b < W1.heap.size:=Nat.lt_of_lt_of_le hb W1b.size
 go_upto_region 2 with fail
 have hbA:Below W1.heap.size W1 (W1.alloc (.cells #[.slice (some ⟨bv,ov,none⟩) 2 cap] 140)):=(Below.refl _ _).alloc (Nat.le_refl _) _
 have hkept:=kept_app (keep hkept hbA) (show Kept [(⟨W1.heap.size,0,none⟩,.slice (some ⟨bv,ov,none⟩) 2 cap)] [] (W1.alloc (.cells #[.slice (some ⟨bv,ov,none⟩) 2 cap] 140)) by simp only [Kept,ka,kb,kc,kd,ke,kf,kg];simp)
 have W2b:=below_step W1b hbA
 generalize W1.alloc (.cells #[.slice (some ⟨bv,ov,none⟩) 2 cap] 140) = W2 at *
 clear hK hbA
 have hK:=hkept;simp only [Kept,ka,kb,kc,kd,ke,kf,kg] at hK
 go_upto_region 3 with fail
 go_loopw [18] (fun i wr => ∃ m:Nat,i = .int .i64 (m:Int) ∧ (m = 0 ∨ (m = 1 ∧ FX = true) ∨ (m = 2 ∧ FX = true ∧ FY = true) ∨ (m = 3 ∧ FX = true ∧ FY = true ∧ FZ = true)) ∧ Below W2.heap.size W2 wr) (fun i _ => 3 - (intOf i).toNat)
 case atStart => exact ⟨0,rfl,.inl rfl,Below.refl _ _⟩
 case round =>
  obtain ⟨m,rfl,hm,hwr⟩:=hrel
  have hkept:=keep hkept hwr
  clear hK
  have hK:=hkept;simp only [Kept,ka,kb,kc,kd,ke,kf,kg] at hK
  have W3b:=below_step W2b hwr
  rcases hm with rfl | ⟨rfl,rfl⟩ | ⟨rfl,rfl,rfl⟩ | ⟨rfl,rfl,rfl,rfl⟩
  ·cases FX
   ·go_upto_region 4 with fail
    refine wp_region_lit ?_
    refine Fl.wp_op rfl (RgV x0 x1) wr (by kernel_rfl) ?_
    go_simp
    go_wp2_with (first | (go_at_call 204;refine (finite_any [x0,x1] (some ⟨_,0,none⟩) _ 0 2 _ (fun _ => rfl) ?_ (by simp)).mono ?_;(focus (intro i hi;have h3:i = 0 ∨ i = 1:=(by simp at hi;omega);rcases h3 with rfl | rfl <;> simp));rintro _ w8 ⟨rfl,hb1⟩;have hbx:=below_step ((hwr.alloc hwr.size _).alloc (Nat.le_trans hwr.size (by simp)) _) hb1;have hkept:=keepT (keep (keep hkept ((Below.refl _ _).alloc (Nat.le_refl _) _)) ((Below.refl _ _).alloc (Nat.le_refl _) _)) hb1 rfl;clear hK;have hK:=hkept;simp only [Kept,ka,kb,kc,kd,ke,kf,kg] at hK;rw [hX]) | (go_at_call 138;refine (anywhere_any _).mono ?_;rintro _ w9 ⟨l1,u1,rfl,e1,hb1⟩;have hbx:=below_step hbx hb1;have hkept:=keepT hkept hb1 rfl;clear hK;have hK:=hkept;simp only [Kept,ka,kb,kc,kd,ke,kf,kg] at hK))
    exact bodyPost_ret (v:=RgV l1 u1) (by simp [results,Tryz.results135,go_sem,hK,World.cell?_setCell_other,World.cell?_setCell_same'];first | done | exact ⟨rfl,rfl⟩) rfl ⟨_,_,rfl,by rw [e1];simp only [Bool.false_and,Bool.and_false,Bool.true_and];rfl,bel2 (below_step W2b hbx) (by omega) ..⟩
   ·go_upto_region 4 with fail
    refine wp_region_lit ?_
    refine Fl.wp_op rfl (RgV x0 x1) wr (by kernel_rfl) ?_
    go_simp
    go_wp2_with (first | (go_at_call 204;refine (finite_any [x0,x1] (some ⟨_,0,none⟩) _ 0 2 _ (fun _ => rfl) ?_ (by simp)).mono ?_;(focus (intro i hi;have h3:i = 0 ∨ i = 1:=(by simp at hi;omega);rcases h3 with rfl | rfl <;> simp));rintro _ w8 ⟨rfl,hb1⟩;have hbx:=below_step ((hwr.alloc hwr.size _).alloc (Nat.le_trans hwr.size (by simp)) _) hb1;have hkept:=keepT (keep (keep hkept ((Below.refl _ _).alloc (Nat.le_refl _) _)) ((Below.refl _ _).alloc (Nat.le_refl _) _)) hb1 rfl;clear hK;have hK:=hkept;simp only [Kept,ka,kb,kc,kd,ke,kf,kg] at hK;rw [hX]) | (go_at_call 138;refine (anywhere_any _).mono ?_;rintro _ w9 ⟨l1,u1,rfl,e1,hb1⟩;have hbx:=below_step hbx hb1;have hkept:=keepT hkept hb1 rfl;clear hK;have hK:=hkept;simp only [Kept,ka,kb,kc,kd,ke,kf,kg] at hK))
    exact ⟨⟨1,rfl,by simp,hbx⟩,by simp [intOf]⟩
  ·cases FY
   ·go_upto_region 4 with fail
    refine wp_region_lit ?_
    refine Fl.wp_op rfl (RgV y0 y1) wr (by kernel_rfl) ?_
    go_simp
    go_wp2_with (first | (go_at_call 204;refine (finite_any [y0,y1] (some ⟨_,0,none⟩) _ 0 2 _ (fun _ => rfl) ?_ (by simp)).mono ?_;(focus (intro i hi;have h3:i = 0 ∨ i = 1:=(by simp at hi;omega);rcases h3 with rfl | rfl <;> simp));rintro _ w8 ⟨rfl,hb1⟩;have hbx:=below_step ((hwr.alloc hwr.size _).alloc (Nat.le_trans hwr.size (by simp)) _) hb1;have hkept:=keepT (keep (keep hkept ((Below.refl _ _).alloc (Nat.le_refl _) _)) ((Below.refl _ _).alloc (Nat.le_refl _) _)) hb1 rfl;clear hK;have hK:=hkept;simp only [Kept,ka,kb,kc,kd,ke,kf,kg] at hK;rw [hY]) | (go_at_call 138;refine (anywhere_any _).mono ?_;rintro _ w9 ⟨l1,u1,rfl,e1,hb1⟩;have hbx:=below_step hbx hb1;have hkept:=keepT hkept hb1 rfl;clear hK;have hK:=hkept;simp only [Kept,ka,kb,kc,kd,ke,kf,kg] at hK))
    exact bodyPost_ret (v:=RgV l1 u1) (by simp [results,Tryz.results135,go_sem,hK,World.cell?_setCell_other,World.cell?_setCell_same'];first | done | exact ⟨rfl,rfl⟩) rfl ⟨_,_,rfl,by rw [e1];simp only [Bool.false_and,Bool.and_false,Bool.true_and];rfl,bel2 (below_step W2b hbx) (by omega) ..⟩
   ·go_upto_region 4 with fail
    refine wp_region_lit ?_
    refine Fl.wp_op rfl (RgV y0 y1) wr (by kernel_rfl) ?_
    go_simp
    go_wp2_with (first | (go_at_call 204;refine (finite_any [y0,y1] (some ⟨_,0,none⟩) _ 0 2 _ (fun _ => rfl) ?_ (by simp)).mono ?_;(focus (intro i hi;have h3:i = 0 ∨ i = 1:=(by simp at hi;omega);rcases h3 with rfl | rfl <;> simp));rintro _ w8 ⟨rfl,hb1⟩;have hbx:=below_step ((hwr.alloc hwr.size _).alloc (Nat.le_trans hwr.size (by simp)) _) hb1;have hkept:=keepT (keep (keep hkept ((Below.refl _ _).alloc (Nat.le_refl _) _)) ((Below.refl _ _).alloc (Nat.le_refl _) _)) hb1 rfl;clear hK;have hK:=hkept;simp only [Kept,ka,kb,kc,kd,ke,kf,kg] at hK;rw [hY]) | (go_at_call 138;refine (anywhere_any _).mono ?_;rintro _ w9 ⟨l1,u1,rfl,e1,hb1⟩;have hbx:=below_step hbx hb1;have hkept:=keepT hkept hb1 rfl;clear hK;have hK:=hkept;simp only [Kept,ka,kb,kc,kd,ke,kf,kg] at hK))
    exact ⟨⟨2,rfl,by simp,hbx⟩,by simp [intOf]⟩
  ·cases FZ
   ·go_upto_region 4 with fail
    refine wp_region_lit ?_
    refine Fl.wp_op rfl (RgV z0 z1) wr (by kernel_rfl) ?_
    go_simp
    go_wp2_with (first | (go_at_call 204;refine (finite_any [z0,z1] (some ⟨_,0,none⟩) _ 0 2 _ (fun _ => rfl) ?_ (by simp)).mono ?_;(focus (intro i hi;have h3:i = 0 ∨ i = 1:=(by simp at hi;omega);rcases h3 with rfl | rfl <;> simp));rintro _ w8 ⟨rfl,hb1⟩;have hbx:=below_step ((hwr.alloc hwr.size _).alloc (Nat.le_trans hwr.size (by simp)) _) hb1;have hkept:=keepT (keep (keep hkept ((Below.refl _ _).alloc (Nat.le_refl _) _)) ((Below.refl _ _).alloc (Nat.le_refl _) _)) hb1 rfl;clear hK;have hK:=hkept;simp only [Kept,ka,kb,kc,kd,ke,kf,kg] at hK;rw [hZ]) | (go_at_call 138;refine (anywhere_any _).mono ?_;rintro _ w9 ⟨l1,u1,rfl,e1,hb1⟩;have hbx:=below_step hbx hb1;have hkept:=keepT hkept hb1 rfl;clear hK;have hK:=hkept;simp only [Kept,ka,kb,kc,kd,ke,kf,kg] at hK))
    exact bodyPost_ret (v:=RgV l1 u1) (by simp [results,Tryz.results135,go_sem,hK,World.cell?_setCell_other,World.cell?_setCell_same'];first | done | exact ⟨rfl,rfl⟩) rfl ⟨_,_,rfl,by rw [e1];simp only [Bool.false_and,Bool.and_false,Bool.true_and];rfl,bel2 (below_step W2b hbx) (by omega) ..⟩
   ·go_upto_region 4 with fail
    refine wp_region_lit ?_
    refine Fl.wp_op rfl (RgV z0 z1) wr (by kernel_rfl) ?_
    go_simp
    go_wp2_with (first | (go_at_call 204;refine (finite_any [z0,z1] (some ⟨_,0,none⟩) _ 0 2 _ (fun _ => rfl) ?_ (by simp)).mono ?_;(focus (intro i hi;have h3:i = 0 ∨ i = 1:=(by simp at hi;omega);rcases h3 with rfl | rfl <;> simp));rintro _ w8 ⟨rfl,hb1⟩;have hbx:=below_step ((hwr.alloc hwr.size _).alloc (Nat.le_trans hwr.size (by simp)) _) hb1;have hkept:=keepT (keep (keep hkept ((Below.refl _ _).alloc (Nat.le_refl _) _)) ((Below.refl _ _).alloc (Nat.le_refl _) _)) hb1 rfl;clear hK;have hK:=hkept;simp only [Kept,ka,kb,kc,kd,ke,kf,kg] at hK;rw [hZ]) | (go_at_call 138;refine (anywhere_any _).mono ?_;rintro _ w9 ⟨l1,u1,rfl,e1,hb1⟩;have hbx:=below_step hbx hb1;have hkept:=keepT hkept hb1 rfl;clear hK;have hK:=hkept;simp only [Kept,ka,kb,kc,kd,ke,kf,kg] at hK))
    exact ⟨⟨3,rfl,by simp,hbx⟩,by simp [intOf]⟩
  ·clear hX hY hZ
   go_upto_region 15 with (go_at_call 209;refine (both_short (fun y => shortF y (cn .f32 r0)) _ _ _ _ (fun x w'' hb => cl_short x r0 bv ov 1 cap _ _ w'' ((keep hkept hb).1 (⟨W1.heap.size,0,none⟩,.slice (some ⟨bv,ov,none⟩) 2 cap) (by simp)) ((keep hkept hb).1 (⟨bv,ov,none⟩,F1 r0) (by simp)))).mono ?_;rintro _ wA ⟨l1,u1,rfl,e1,hb1⟩;have hkept:=keepT hkept hb1 rfl;clear hK;have hK:=hkept;simp only [Kept,ka,kb,kc,kd,ke,kf,kg] at hK)
   have hbA:Below wA.heap.size wA (wA.alloc (.cells #[F1 l1,F1 u1] 118)):=(Below.refl _ _).alloc (Nat.le_refl _) _
   have hkept:=kept_app (keep hkept hbA) (show Kept [(⟨wA.heap.size,0,none⟩,F1 l1),(⟨wA.heap.size,1,none⟩,F1 u1)] [] (wA.alloc (.cells #[F1 l1,F1 u1] 118)) by simp only [Kept,ka,kb,kc,kd,ke,kf,kg];simp)
   have W4b:=below_step (below_step W3b hb1) hbA
   generalize wA.alloc (.cells #[F1 l1,F1 u1] 118) = w4 at *
   clear hK
   have hK:=hkept;simp only [Kept,ka,kb,kc,kd,ke,kf,kg] at hK
   refine Qr.wp_below 10 (by kernel_rfl) (by kernel_rfl) PhiTb ?_
   repeat (first | (refine Qr.walk_plain rfl fun K hK => ?_;refine one_bin _ _ _ _ _ rfl _ _ _ rfl rfl rfl (fun r hr => ?_);go_simp;refine hK _ ?_;clear hK K) | (refine Qr.walk_plain rfl fun K hK => ?_;apply Qr.one_det;(focus (intro w' hw';have HK:=keep hkept hw';simp only [Kept,ka,kb,kc,kd,ke,kf,kg] at HK;go_simp;first | done | rfl));go_simp;refine hK _ ?_;clear hK K) | (refine Qr.walk_plain rfl fun K hK => ?_;apply Qr.one_call;(focus (intro w' hw';go_simp;first | done | exact ⟨rfl,rfl⟩));(focus (intro w' hw'; go_at_call 220;refine (longr_any _ _ _ _ _ _ _).mono ?_;rintro _ w2 ⟨l1,u1,rfl,hr1,hb1⟩ ;exact ⟨_,rfl,by constructor <;> assumption,below_step hw' (by assumption),by assumption⟩));intro v hv;cases hv;go_simp;refine hK _ ?_;clear hK K) | (refine Qr.walk_plain rfl fun K hK => ?_;apply Qr.one_call;(focus (intro w' hw';go_simp;first | done | exact ⟨rfl,rfl⟩));(focus (intro w' hw'; go_at_call 208;refine (down_any _ _ _ _).mono ?_;rintro _ w2 ⟨l1,u1,rfl,hr1,hb1⟩ ;exact ⟨_,rfl,by constructor <;> assumption,below_step hw' (by assumption),by assumption⟩));intro v hv;cases hv;go_simp;refine hK _ ?_;clear hK K) | (refine Qr.walk_plain rfl fun K hK => ?_;apply Qr.one_call;(focus (intro w' hw';go_simp;first | done | exact ⟨rfl,rfl⟩));(focus (intro w' hw'; go_at_call 212;refine (times_any _ _ _ _).mono ?_;rintro _ w2 ⟨l1,u1,rfl,hr1,hb1⟩ ;exact ⟨_,rfl,by constructor <;> assumption,below_step hw' (by assumption),by assumption⟩));intro v hv;cases hv;go_simp;refine hK _ ?_;clear hK K) | (refine Qr.walk_plain rfl fun K hK => ?_;apply Qr.one_call;(focus (intro w' hw';go_simp;first | done | exact ⟨rfl,rfl⟩));(focus (intro w' hw'; go_at_call 213;refine (plus_any _ _ _ _ _).mono ?_;rintro _ w2 ⟨l1,u1,rfl,hr1,hb1⟩ ;exact ⟨_,rfl,by constructor <;> assumption,below_step hw' (by assumption),by assumption⟩));intro v hv;cases hv;go_simp;refine hK _ ?_;clear hK K))
   rename_i l3 u3 e3 q1 q2 e4
   refine Qr.walk_nil fun w8 hw8 => ?_
   have hkept:=keep hkept hw8
   have W8b:=below_step W4b hw8
   clear hK
   have hK:=hkept
   simp only [Kept,ka,kb,kc,kd,ke,kf,kg] at hK
   go_wp2_with fail
   exact bodyPost_ret (v:=RgV q1 q2) (by simp [results,Tryz.results135,go_sem,hK,World.cell?_setCell_other,World.cell?_setCell_same'];first | done | exact ⟨rfl,rfl⟩) rfl ⟨_,_,rfl,by rw [e4,e3,e1];simp only [leafG,Bool.and_self,if_true],bel2 W8b (by omega) ..⟩

end Go.Proofs.YtbiacfkiakddiaaGreat
