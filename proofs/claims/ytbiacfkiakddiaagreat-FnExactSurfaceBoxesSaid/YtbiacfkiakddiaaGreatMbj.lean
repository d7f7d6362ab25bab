/-
 Lemmas: V11.
-/
import Derived.Test.YtbiacfkiakddiaaGreatMbb
import Derived.Test.YtbiacfkiakddiaaGreatMbh
set_option linter.unusedVariables false
set_option linter.unusedSimpArgs false
namespace Go.Proofs.YtbiacfkiakddiaaGreat
open Go.RowKit Go.Fl
abbrev Rg3 (x0 x1 y0 y1 z0 z1:Nat):Value:=.agg #[F1 x0,F1 x1,F1 y0,F1 y1,F1 z0,F1 z1]
def leafG (b:Bool) (r:Nat × Nat):Nat × Nat:=if b then r else (minw,infw)
def endsR (G:Nat → Nat → Nat → Nat) (x y z:Nat × Nat):Nat × Nat:=(G (sizeR x).1 (sizeR y).1 (sizeR z).1,G (sizeR x).2 (sizeR y).2 (sizeR z).2)
def fineR (r:Nat × Nat):Bool:=finB r.1 && finB r.2
theorem fine_is (a b:Nat):(!([a,b]:List Nat).any (fun x => !finP x)) = fineR (cn .f32 a,cn .f32 b):=by
 unfold fineR finB
 simp only [List.any_cons,List.any_nil,finP,Bool.or_false,Bool.not_or,Bool.not_not]


theorem cn_size (a b:Nat):(cn .f32 (sizeR (cn .f32 a,cn .f32 b)).1,cn .f32 (sizeR (cn .f32 a,cn .f32 b)).2) = sizeR (cn .f32 a,cn .f32 b):=by
 unfold sizeR greaterF negc
 repeat' split
 all_goals first | rfl | (simp only [cn_cn,cn_zero];done)

inductive PhiLf (b o:Nat) (G:Nat → Nat → Nat → Nat):FuncId → Array Value → Value → Prop
 | leaf (x y z r:Nat) (h:cn .f32 r = G (cn .f32 x) (cn .f32 y) (cn .f32 z)):PhiLf b o G 217 #[.pointer (some ⟨b,o,none⟩),V3 x y z] (F1 r)

/-- Three new ranges are stored. -/
theorem three2 {w:World} {g k m B:Nat} {a b a' b' a2 b2:Value} {T T' T2:TypeId} (hg:w.heap[g]? = some (.cells #[a,b] T (0,0))) (hk:w.heap[k]? = some (.cells #[a',b'] T' (0,0))) (hm:w.heap[m]? = some (.cells #[a2,b2] T2 (0,0))) (h1:g ≠ k) (h2:g ≠ m) (h3:k ≠ m) (hB1:B ≤ g) (hB2:B ≤ k) (hB3:B ≤ m) (x y x' y' x2 y2:Value) :
  Kept [(⟨g,0,none⟩,x),(⟨g,1,none⟩,y),(⟨k,0,none⟩,x'),(⟨k,1,none⟩,y'),(⟨m,0,none⟩,x2),(⟨m,1,none⟩,y2)] [] ((((((w.setCell ⟨g,0,none⟩ x).setCell ⟨g,1,none⟩ y).setCell ⟨k,0,none⟩ x').setCell ⟨k,1,none⟩ y').setCell ⟨m,0,none⟩ x2).setCell ⟨m,1,none⟩ y2) ∧ Below B w ((((((w.setCell ⟨g,0,none⟩ x).setCell ⟨g,1,none⟩ y).setCell ⟨k,0,none⟩ x').setCell ⟨k,1,none⟩ y').setCell ⟨m,0,none⟩ x2).setCell ⟨m,1,none⟩ y2):=by
 obtain ⟨c1,d1⟩:=set2 hg x y
 have hk':((w.setCell ⟨g,0,none⟩ x).setCell ⟨g,1,none⟩ y).heap[k]? = some (.cells #[a',b'] T' (0,0)):=by
  simp only [World.setCell,Array.getElem?_modify,if_neg h1];exact hk
 have hm':((w.setCell ⟨g,0,none⟩ x).setCell ⟨g,1,none⟩ y).heap[m]? = some (.cells #[a2,b2] T2 (0,0)):=by
  simp only [World.setCell,Array.getElem?_modify,if_neg h2];exact hm
 generalize (w.setCell ⟨g,0,none⟩ x).setCell ⟨g,1,none⟩ y = w1 at *
 obtain ⟨c2,d2⟩:=set2 hk' x' y'
 have hm2:((w1.setCell ⟨k,0,none⟩ x').setCell ⟨k,1,none⟩ y').heap[m]? = some (.cells #[a2,b2] T2 (0,0)):=by
  simp only [World.setCell,Array.getElem?_modify,if_neg h3];exact hm'
 have hg2:((w1.setCell ⟨k,0,none⟩ x').setCell ⟨k,1,none⟩ y').heap[g]? = some (.cells #[x,y] T (0,0)):=by
  simp only [World.setCell,Array.getElem?_modify,if_neg (Ne.symm h1)];exact c1
 generalize (w1.setCell ⟨k,0,none⟩ x').setCell ⟨k,1,none⟩ y' = w2 at *
 obtain ⟨c3,d3⟩:=set2 hm2 x2 y2
 have hg3:((w2.setCell ⟨m,0,none⟩ x2).setCell ⟨m,1,none⟩ y2).heap[g]? = some (.cells #[x,y] T (0,0)):=by
  simp only [World.setCell,Array.getElem?_modify,if_neg (Ne.symm h2)];exact hg2
 have hk3:((w2.setCell ⟨m,0,none⟩ x2).setCell ⟨m,1,none⟩ y2).heap[k]? = some (.cells #[x',y'] T' (0,0)):=by
  simp only [World.setCell,Array.getElem?_modify,if_neg (Ne.symm h3)];exact c2
 obtain ⟨p0,p1,-⟩:=cells2 hg3
 obtain ⟨q0,q1,-⟩:=cells2 hk3
 obtain ⟨r0,r1,-⟩:=cells2 c3
 refine ⟨?_,((d1.mono hB1).trans (d2.mono hB2)).trans (d3.mono hB3)⟩
 simp only [Kept,ka,kb,kc,kd,ke,kf,kg]
 simp [p0,p1,q0,q1,r0,r1]


set_option maxRecDepth 100000 in
set_option maxHeartbeats 2000000 in
theorem leafr_ball {b o bv ov cap r0 x0 x1 y0 y1 z0 z1:Nat} {w:World} (hN:Kept [(⟨b,o,none⟩,.int .i64 0),(⟨b,o + 3,none⟩,.slice (some ⟨bv,ov,none⟩) 1 cap),(⟨bv,ov,none⟩,F1 r0)] [] w) :
  Calls Tryz.prog 135 #[.pointer (some ⟨b,o,none⟩),Rg3 x0 x1 y0 y1 z0 z1] w (RetR (leafG (fineR (cn .f32 x0,cn .f32 x1) && fineR (cn .f32 y0,cn .f32 y1) && fineR (cn .f32 z0,cn .f32 z1)) (endsR (fun x y z => ballF x y z (cn .f32 r0)) (cn .f32 x0,cn .f32 x1) (cn .f32 y0,cn .f32 y1) (cn .f32 z0,cn .f32 z1))) w):=by
 have hX:=fine_is x0 x1
 have hY:=fine_is y0 y1
 have hZ:=fine_is z0 z1
 generalize fineR (cn .f32 x0,cn .f32 x1) = FX at *
 generalize fineR (cn .f32 y0,cn .f32 y1) = FY at *
 generalize fineR (cn .f32 z0,cn .f32 z1) = FZ at *
 have hK:=hN
 simp only [Kept,ka,kb,kc,kd,ke,kf,kg] at hK
 have hb:b < w.heap.size:=some_lt (a:=⟨b,o,none⟩) (by rw [hK.1];rfl)
 go_enter Tryz.func135,Tryz.ntmps135
 go_upto_region 1 with fail
 clear hK
 generalize hW:(w.alloc (.cells #[F1 x0,F1 x1,F1 y0,F1 y1,F1 z0,F1 z1] 197)).alloc (.cells #[F1 0,F1 0] 118) = W1 at *
 have W1b:Below w.heap.size w W1:=by subst hW;exact (by repeat' (first | exact Below.refl _ _ | exact Nat.le_refl _ | refine below_drewN ?_ _ | refine Below.alloc ?_ (by simp <;> omega) _ | refine Below.setCell ?_ (by simp <;> omega) _ | refine below_step ?_ (by assumption)))
 have hkept:Kept [(⟨w.heap.size,0,none⟩,F1 x0),(⟨w.heap.size,1,none⟩,F1 x1),(⟨w.heap.size,2,none⟩,F1 y0),(⟨w.heap.size,3,none⟩,F1 y1),(⟨w.heap.size,4,none⟩,F1 z0),(⟨w.heap.size,5,none⟩,F1 z1),(⟨w.heap.size + 1,0,none⟩,F1 0),(⟨w.heap.size + 1,1,none⟩,F1 0)] [⟨w.heap.size + 1,0,none⟩,⟨w.heap.size + 1,1,none⟩] W1:=by
  subst hW;simp only [Kept,ka,kb,kc,kd,ke,kf,kg];(first | (go_simp;done) | (simp [World.cell?,World.frozen?,World.alloc,Array.getElem?_push];done))
 clear hW
 have hkept:=kept_app (keep hN W1b) hkept
 clear hN
 have hK:=hkept;simp only [Kept,ka,kb,kc,kd,ke,kf,kg] at hK
 have hb1:b < W1.heap.size:=Nat.lt_of_lt_of_le hb W1b.size
 go_upto_region 2 with fail
 have hbA:Below W1.heap.size W1 (W1.alloc (.cells #[.slice (some ⟨bv,ov,none⟩) 1 cap] 140)):=(Below.refl _ _).alloc (Nat.le_refl _) _
 have hkept:=kept_app (keep hkept hbA) (show Kept [(⟨W1.heap.size,0,none⟩,.slice (some ⟨bv,ov,none⟩) 1 cap)] [] (W1.alloc (.cells #[.slice (some ⟨bv,ov,none⟩) 1 cap] 140)) by simp only [Kept,ka,kb,kc,kd,ke,kf,kg];simp)
 have W2b:=below_step W1b hbA
 generalize W1.alloc (.cells #[.slice (some ⟨bv,ov,none⟩) 1 cap] 140) = W2 at *
 clear hK hbA
 have hK:=hkept;simp only [Kept,ka,kb,kc,kd,ke,kf,kg] at hK
 go_upto_region 3 with fail
 go_loopw [18] (fun i wr => ∃ m:Nat,i = .int .i64 (m:Int) ∧ (m = 0 ∨ (m = 1 ∧ FX = true) ∨ (m = 2 ∧ FX = true ∧ FY = true) ∨ (m = 3 ∧ FX = true ∧ FY = true ∧ FZ = true)) ∧ Below W2.heap.size W2 wr) (fun i _ => 3 - (intOf i).toNat)
 case atStart => exact ⟨0,rfl,.inl rfl,Below.refl _ _⟩
 case round =>
  obtain ⟨m,rfl,hm,hwr⟩:=hrel
  have hkept:=keep hkept hwr
  clear hK
  have hK:=hkept;simp only [Kept,ka,kb,kc,kd,ke,kf,kg] at hK
  have W3b:=below_step W2b hwr
  rcases hm with rfl | ⟨rfl,rfl⟩ | ⟨rfl,rfl,rfl⟩ | ⟨rfl,rfl,rfl,rfl⟩
  ·cases FX
   ·go_upto_region 4 with fail
    refine wp_region_lit ?_
    refine Fl.wp_op rfl (RgV x0 x1) wr (by kernel_rfl) ?_
    go_simp
    go_wp2_with (first | (go_at_call 204;refine (finite_any [x0,x1] (some ⟨_,0,none⟩) _ 0 2 _ (fun _ => rfl) ?_ (by simp)).mono ?_;(focus (intro i hi;have h3:i = 0 ∨ i = 1:=(by simp at hi;omega);rcases h3 with rfl | rfl <;> simp));rintro _ w8 ⟨rfl,hb1⟩;have hbx:=below_step ((hwr.alloc hwr.size _).alloc (Nat.le_trans hwr.size (by simp)) _) hb1;have hkept:=keepT (keep (keep hkept ((Below.refl _ _).alloc (Nat.le_refl _) _)) ((Below.refl _ _).alloc (Nat.le_refl _) _)) hb1 rfl;clear hK;have hK:=hkept;simp only [Kept,ka,kb,kc,kd,ke,kf,kg] at hK;rw [hX]) | (go_at_call 138;refine (anywhere_any _).mono ?_;rintro _ w9 ⟨l1,u1,rfl,e1,hb1⟩;have hbx:=below_step hbx hb1;have hkept:=keepT hkept hb1 rfl;clear hK;have hK:=hkept;simp only [Kept,ka,kb,kc,kd,ke,kf,kg] at hK))
    exact bodyPost_ret (v:=RgV l1 u1) (by simp [results,Tryz.results135,go_sem,hK,World.cell?_setCell_other,World.cell?_setCell_same'];first | done | exact ⟨rfl,rfl⟩) rfl ⟨_,_,rfl,by rw [e1];simp only [Bool.false_and,Bool.and_false,Bool.true_and];rfl,bel2 (below_step W2b hbx) (by omega) ..⟩
   ·go_upto_region 4 with fail
    refine wp_region_lit ?_
    refine Fl.wp_op rfl (RgV x0 x1) wr (by kernel_rfl) ?_
    go_simp
    go_wp2_with (first | (go_at_call 204;refine (finite_any [x0,x1] (some ⟨_,0,none⟩) _ 0 2 _ (fun _ => rfl) ?_ (by simp)).mono ?_;(focus (intro i hi;have h3:i = 0 ∨ i = 1:=(by simp at hi;omega);rcases h3 with rfl | rfl <;> simp));rintro _ w8 ⟨rfl,hb1⟩;have hbx:=below_step ((hwr.alloc hwr.size _).alloc (Nat.le_trans hwr.size (by simp)) _) hb1;have hkept:=keepT (keep (keep hkept ((Below.refl _ _).alloc (Nat.le_refl _) _)) ((Below.refl _ _).alloc (Nat.le_refl _) _)) hb1 rfl;clear hK;have hK:=hkept;simp only [Kept,ka,kb,kc,kd,ke,kf,kg] at hK;rw [hX]) | (go_at_call 138;refine (anywhere_any _).mono ?_;rintro _ w9 ⟨l1,u1,rfl,e1,hb1⟩;have hbx:=below_step hbx hb1;have hkept:=keepT hkept hb1 rfl;clear hK;have hK:=hkept;simp only [Kept,ka,kb,kc,kd,ke,kf,kg] at hK))
    exact ⟨⟨1,rfl,by simp,hbx⟩,by simp [intOf]⟩
  ·cases FY
   ·go_upto_region 4 with fail
    refine wp_region_lit ?_
    refine Fl.wp_op rfl (RgV y0 y1) wr (by kernel_rfl) ?_
    go_simp
    go_wp2_with (first | (go_at_call 204;refine (finite_any [y0,y1] (some ⟨_,0,none⟩) _ 0 2 _ (fun _ => rfl) ?_ (by simp)).mono ?_;(focus (intro i hi;have h3:i = 0 ∨ i = 1:=(by simp at hi;omega);rcases h3 with rfl | rfl <;> simp));rintro _ w8 ⟨rfl,hb1⟩;have hbx:=below_step ((hwr.alloc hwr.size _).alloc (Nat.le_trans hwr.size (by simp)) _) hb1;have hkept:=keepT (keep (keep hkept ((Below.refl _ _).alloc (Nat.le_refl _) _)) ((Below.refl _ _).alloc (Nat.le_refl _) _)) hb1 rfl;clear hK;have hK:=hkept;simp only [Kept,ka,kb,kc,kd,ke,kf,kg] at hK;rw [hY]) | (go_at_call 138;refine (anywhere_any _).mono ?_;rintro _ w9 ⟨l1,u1,rfl,e1,hb1⟩;have hbx:=below_step hbx hb1;have hkept:=keepT hkept hb1 rfl;clear hK;have hK:=hkept;simp only [Kept,ka,kb,kc,kd,ke,kf,kg] at hK))
    exact bodyPost_ret (v:=RgV l1 u1) (by simp [results,Tryz.results135,go_sem,hK,World.cell?_setCell_other,World.cell?_setCell_same'];first | done | exact ⟨rfl,rfl⟩) rfl ⟨_,_,rfl,by rw [e1];simp only [Bool.false_and,Bool.and_false,Bool.true_and];rfl,bel2 (below_step W2b hbx) (by omega) ..⟩
   ·go_upto_region 4 with fail
    refine wp_region_lit ?_
    refine Fl.wp_op rfl (RgV y0 y1) wr (by kernel_rfl) ?_
    go_simp
    go_wp2_with (first | (go_at_call 204;refine (finite_any [y0,y1] (some ⟨_,0,none⟩) _ 0 2 _ (fun _ => rfl) ?_ (by simp)).mono ?_;(focus (intro i hi;have h3:i = 0 ∨ i = 1:=(by simp at hi;omega);rcases h3 with rfl | rfl <;> simp));rintro _ w8 ⟨rfl,hb1⟩;have hbx:=below_step ((hwr.alloc hwr.size _).alloc (Nat.le_trans hwr.size (by simp)) _) hb1;have hkept:=keepT (keep (keep hkept ((Below.refl _ _).alloc (Nat.le_refl _) _)) ((Below.refl _ _).alloc (Nat.le_refl _) _)) hb1 rfl;clear hK;have hK:=hkept;simp only [Kept,ka,kb,kc,kd,ke,kf,kg] at hK;rw [hY]) | (go_at_call 138;refine (anywhere_any _).mono ?_;rintro _ w9 ⟨l1,u1,rfl,e1,hb1⟩;have hbx:=below_step hbx hb1;have hkept:=keepT hkept hb1 rfl;clear hK;have hK:=hkept;simp only [Kept,ka,kb,kc,kd,ke,kf,kg] at hK))
    exact ⟨⟨2,rfl,by simp,hbx⟩,by simp [intOf]⟩
  ·cases FZ
   ·go_upto_region 4 with fail
    refine wp_region_lit ?_
    refine Fl.wp_op rfl (RgV z0 z1) wr (by kernel_rfl) ?_
    go_simp
    go_wp2_with (first | (go_at_call 204;refine (finite_any [z0,z1] (some ⟨_,0,none⟩) _ 0 2 _ (fun _ => rfl) ?_ (by simp)).mono ?_;(focus (intro i hi;have h3:i = 0 ∨ i = 1:=(by simp at hi;omega);rcases h3 with rfl | rfl <;> simp));rintro _ w8 ⟨rfl,hb1⟩;have hbx:=below_step ((hwr.alloc hwr.size _).alloc (Nat.le_trans hwr.size (by simp)) _) hb1;have hkept:=keepT (keep (keep hkept ((Below.refl _ _).alloc (Nat.le_refl _) _)) ((Below.refl _ _).alloc (Nat.le_refl _) _)) hb1 rfl;clear hK;have hK:=hkept;simp only [Kept,ka,kb,kc,kd,ke,kf,kg] at hK;rw [hZ]) | (go_at_call 138;refine (anywhere_any _).mono ?_;rintro _ w9 ⟨l1,u1,rfl,e1,hb1⟩;have hbx:=below_step hbx hb1;have hkept:=keepT hkept hb1 rfl;clear hK;have hK:=hkept;simp only [Kept,ka,kb,kc,kd,ke,kf,kg] at hK))
    exact bodyPost_ret (v:=RgV l1 u1) (by simp [results,Tryz.results135,go_sem,hK,World.cell?_setCell_other,World.cell?_setCell_same'];first | done | exact ⟨rfl,rfl⟩) rfl ⟨_,_,rfl,by rw [e1];simp only [Bool.false_and,Bool.and_false,Bool.true_and];rfl,bel2 (below_step W2b hbx) (by omega) ..⟩
   ·go_upto_region 4 with fail
    refine wp_region_lit ?_
    refine Fl.wp_op rfl (RgV z0 z1) wr (by kernel_rfl) ?_
    go_simp
    go_wp2_with (first | (go_at_call 204;refine (finite_any [z0,z1] (some ⟨_,0,none⟩) _ 0 2 _ (fun _ => rfl) ?_ (by simp)).mono ?_;(focus (intro i hi;have h3:i = 0 ∨ i = 1:=(by simp at hi;omega);rcases h3 with rfl | rfl <;> simp));rintro _ w8 ⟨rfl,hb1⟩;have hbx:=below_step ((hwr.alloc hwr.size _).alloc (Nat.le_trans hwr.size (by simp)) _) hb1;have hkept:=keepT (keep (keep hkept ((Below.refl _ _).alloc (Nat.le_refl _) _)) ((Below.refl _ _).alloc (Nat.le_refl _) _)) hb1 rfl;clear hK;have hK:=hkept;simp only [Kept,ka,kb,kc,kd,ke,kf,kg] at hK;rw [hZ]) | (go_at_call 138;refine (anywhere_any _).mono ?_;rintro _ w9 ⟨l1,u1,rfl,e1,hb1⟩;have hbx:=below_step hbx hb1;have hkept:=keepT hkept hb1 rfl;clear hK;have hK:=hkept;simp only [Kept,ka,kb,kc,kd,ke,kf,kg] at hK))
    exact ⟨⟨3,rfl,by simp,hbx⟩,by simp [intOf]⟩
  ·clear hX hY hZ
   go_upto_region 11 with fail
   refine Qg.wp_gd 12 (by kernel_rfl) (by kernel_rfl) PhiRg (GdL [] wr [] [(8,#[F1 0,F1 0],118),(9,#[F1 0,F1 0],118),(10,#[F1 0,F1 0],118)] 1000 (fun _ => True)) [8,9,10] (gdl_lasts ..) (gdl_start (by intro d hd;simp at hd;rcases hd with rfl | rfl | rfl | rfl <;> rfl) rfl) ?_
   intro hC0
   repeat (first | (refine Qg.walk_step fun K hK => ?_;apply Qg.one_det hC0 (by intro d hd;cases hd;decide) rfl;(focus (intro w' hw';have HK:=keep hkept hw';simp only [Kept,ka,kb,kc,kd,ke,kf,kg] at HK;go_simp;first | done | rfl));(focus (intro w' hw' hs;exact gdl_no (by decide) (by decide) (by decide)));go_simp;refine hK _ ?_;clear hK K) | (refine Qg.walk_step fun K hK => ?_;refine Qg.one_new (.cells #[F1 0,F1 0] 118) hC0 rfl ?_ ?_ ?_ ?_;(focus (intro w' hw';go_simp;first | done | rfl));(focus (intro w' hw';exact hw'.alloc hw'.size _));(focus (intro w' hw';exact gdl_new (by decide) (by simp) (by decide) hw'));intro _;go_simp;refine hK _ ?_;clear hK K) | (refine Qg.walk_step fun K hK => ?_;apply Qg.one_call _ _ hC0 (by intro d hd;cases hd;decide) rfl;(focus (intro w' hw';go_simp;first | done | exact ⟨rfl,rfl⟩));(focus (exact ⟨_,PhiRg.sizer _ _ _ _ (cn_size _ _)⟩));(focus (intro w' hw' hs;go_at_call 215;refine (sizer_any _ _ _).mono ?_;rintro _ wA ⟨l1,u1,rfl,e1,hb1⟩;exact ⟨_,rfl,PhiRg.sizer _ _ _ _ e1,gdl_no (by decide) (by decide) (by decide),below_step hw' hb1,hb1⟩));intro v hv;cases hv;go_simp;refine hK _ ?_;clear hK K))
   rename_i l1 u1 e1 l2 u2 e2 l3 u3 e3 ga gb gc
   refine Qg.walk_nil fun w6 hw6 hE => ?_
   obtain ⟨g,ee,hga,hca⟩:=(hE.1 8).2.1 (8,#[F1 0,F1 0],118) (by simp) rfl _ rfl
   injection ee with ee;injection ee with ee;subst ee
   obtain ⟨g,ee,hgb,hcb⟩:=(hE.1 9).2.1 (9,#[F1 0,F1 0],118) (by simp) rfl _ rfl
   injection ee with ee;injection ee with ee;subst ee
   obtain ⟨g,ee,hgc,hcc⟩:=(hE.1 10).2.1 (10,#[F1 0,F1 0],118) (by simp) rfl _ rfl
   injection ee with ee;injection ee with ee;subst ee
   have n1:ga ≠ gb:=fun h => hE.2.2 8 (by simp) 9 (by simp) (by decide) ga rfl (by rw [h];rfl)
   have n2:ga ≠ gc:=fun h => hE.2.2 8 (by simp) 10 (by simp) (by decide) ga rfl (by rw [h];rfl)
   have n3:gb ≠ gc:=fun h => hE.2.2 9 (by simp) 10 (by simp) (by decide) gb rfl (by rw [h];rfl)
   clear hE hC0
   obtain ⟨hset,hbw⟩:=three2 hca hcb hcc n1 n2 n3 hga hgb hgc (F1 l1) (F1 u1) (F1 l2) (F1 u2) (F1 l3) (F1 u3)
   have hbw:=hw6.trans hbw
   obtain ⟨pa0,pa1,fa0,fa1⟩:=cells2 hca
   obtain ⟨pb0,pb1,fb0,fb1⟩:=cells2 hcb
   obtain ⟨pc0,pc1,fc0,fc1⟩:=cells2 hcc
   clear hca hcb hcc
   go_upto_region 12 with fail
   clear pa0 pa1 fa0 fa1 pb0 pb1 fb0 fb1 pc0 pc1 fc0 fc1
   have hkept:=kept_app (keep hkept hbw) hset
   have W7b:=below_step W3b hbw
   clear hset hK hw6
   generalize ((((((w6.setCell ⟨ga,0,none⟩ (F1 l1)).setCell ⟨ga,1,none⟩ (F1 u1)).setCell ⟨gb,0,none⟩ (F1 l2)).setCell ⟨gb,1,none⟩ (F1 u2)).setCell ⟨gc,0,none⟩ (F1 l3)).setCell ⟨gc,1,none⟩ (F1 u3)) = w7 at *
   have hK:=hkept;simp only [Kept,ka,kb,kc,kd,ke,kf,kg] at hK
   refine Qr.wp_below 19 (by kernel_rfl) (by kernel_rfl) (PhiLf b o (fun x y z => ballF x y z (cn .f32 r0))) ?_
   repeat (first | (refine Qr.walk_plain rfl fun K hK => ?_;apply Qr.one_det;(focus (intro w' hw';have HK:=keep hkept hw';simp only [Kept,ka,kb,kc,kd,ke,kf,kg] at HK;go_simp;first | done | rfl));go_simp;refine hK _ ?_;clear hK K) | (refine Qr.walk_plain rfl fun K hK => ?_;apply Qr.one_call;(focus (intro w' hw';go_simp;first | done | exact ⟨rfl,rfl⟩));(focus (intro w' hw'; have HK2:=keep hkept hw';simp only [Kept,ka,kb,kc,kd,ke,kf,kg] at HK2;go_at_call 217;refine (leaf_ball b o bv ov cap r0 _ _ _ _ (by simp only [HK2]) (by simp only [HK2]) (by simp only [HK2])).mono ?_;rintro _ w2 ⟨r1,rfl,hr1,hb1⟩;exact ⟨_,rfl,.leaf _ _ _ _ hr1,below_step hw' (by assumption),by assumption⟩));intro v hv;cases hv;go_simp;refine hK _ ?_;clear hK K))
   rename_i r1 h1 r2 h2
   refine Qr.walk_nil fun w8 hw8 => ?_
   have hkept:=keep hkept hw8
   have W8b:=below_step W7b hw8
   clear hK
   have hK:=hkept
   simp only [Kept,ka,kb,kc,kd,ke,kf,kg] at hK
   go_wp2_with fail
   exact bodyPost_ret (v:=RgV r1 r2) (by simp [results,Tryz.results135,go_sem,hK,World.cell?_setCell_other,World.cell?_setCell_same'];first | done | exact ⟨rfl,rfl⟩) rfl ⟨_,_,rfl,by rw [h1,h2];simp only [leafG,endsR,Bool.and_self,if_true];rw [← e1,← e2,← e3],bel2 W8b (by omega) ..⟩
set_option maxRecDepth 100000 in
set_option maxHeartbeats 2000000 in
theorem leafr_box {b o bv ov cap r0 r1 r2 x0 x1 y0 y1 z0 z1:Nat} {w:World} (hN:Kept [(⟨b,o,none⟩,.int .i64 1),(⟨b,o + 3,none⟩,.slice (some ⟨bv,ov,none⟩) 3 cap),(⟨bv,ov,none⟩,F1 r0),(⟨bv,ov + 1,none⟩,F1 r1),(⟨bv,ov + 2,none⟩,F1 r2)] [] w) :
  Calls Tryz.prog 135 #[.pointer (some ⟨b,o,none⟩),Rg3 x0 x1 y0 y1 z0 z1] w (RetR (leafG (fineR (cn .f32 x0,cn .f32 x1) && fineR (cn .f32 y0,cn .f32 y1) && fineR (cn .f32 z0,cn .f32 z1)) (endsR (fun x y z => boxF x y z (cn .f32 r0) (cn .f32 r1) (cn .f32 r2)) (cn .f32 x0,cn .f32 x1) (cn .f32 y0,cn .f32 y1) (cn .f32 z0,cn .f32 z1))) w):=by
 have hX:=fine_is x0 x1
 have hY:=fine_is y0 y1
 have hZ:=fine_is z0 z1
 generalize fineR (cn .f32 x0,cn .f32 x1) = FX at *
 generalize fineR (cn .f32 y0,cn .f32 y1) = FY at *
 generalize fineR (cn .f32 z0,cn .f32 z1) = FZ at *
 have hK:=hN
 simp only [Kept,ka,kb,kc,kd,ke,kf,kg] at hK
 have hb:b < w.heap.size:=some_lt (a:=⟨b,o,none⟩) (by rw [hK.1];rfl)
 go_enter Tryz.func135,Tryz.ntmps135
 go_upto_region 1 with fail
 clear hK
 generalize hW:(w.alloc (.cells #[F1 x0,F1 x1,F1 y0,F1 y1,F1 z0,F1 z1] 197)).alloc (.cells #[F1 0,F1 0] 118) = W1 at *
 have W1b:Below w.heap.size w W1:=by subst hW;exact (by repeat' (first | exact Below.refl _ _ | exact Nat.le_refl _ | refine below_drewN ?_ _ | refine Below.alloc ?_ (by simp <;> omega) _ | refine Below.setCell ?_ (by simp <;> omega) _ | refine below_step ?_ (by assumption)))
 have hkept:Kept [(⟨w.heap.size,0,none⟩,F1 x0),(⟨w.heap.size,1,none⟩,F1 x1),(⟨w.heap.size,2,none⟩,F1 y0),(⟨w.heap.size,3,none⟩,F1 y1),(⟨w.heap.size,4,none⟩,F1 z0),(⟨w.heap.size,5,none⟩,F1 z1),(⟨w.heap.size + 1,0,none⟩,F1 0),(⟨w.heap.size + 1,1,none⟩,F1 0)] [⟨w.heap.size + 1,0,none⟩,⟨w.heap.size + 1,1,none⟩] W1:=by
  subst hW;simp only [Kept,ka,kb,kc,kd,ke,kf,kg];(first | (go_simp;done) | (simp [World.cell?,World.frozen?,World.alloc,Array.getElem?_push];done))
 clear hW
 have hkept:=kept_app (keep hN W1b) hkept
 clear hN
 have hK:=hkept;simp only [Kept,ka,kb,kc,kd,ke,kf,kg] at hK
 have hb1:b < W1.heap.size:=Nat.lt_of_lt_of_le hb W1b.size
 go_upto_region 2 with fail
 have hbA:Below W1.heap.size W1 (W1.alloc (.cells #[.slice (some ⟨bv,ov,none⟩) 3 cap] 140)):=(Below.refl _ _).alloc (Nat.le_refl _) _
 have hkept:=kept_app (keep hkept hbA) (show Kept [(⟨W1.heap.size,0,none⟩,.slice (some ⟨bv,ov,none⟩) 3 cap)] [] (W1.alloc (.cells #[.slice (some ⟨bv,ov,none⟩) 3 cap] 140)) by simp only [Kept,ka,kb,kc,kd,ke,kf,kg];simp)
 have W2b:=below_step W1b hbA
 generalize W1.alloc (.cells #[.slice (some ⟨bv,ov,none⟩) 3 cap] 140) = W2 at *
 clear hK hbA
 have hK:=hkept;simp only [Kept,ka,kb,kc,kd,ke,kf,kg] at hK
 go_upto_region 3 with fail
 go_loopw [18] (fun i wr => ∃ m:Nat,i = .int .i64 (m:Int) ∧ (m = 0 ∨ (m = 1 ∧ FX = true) ∨ (m = 2 ∧ FX = true ∧ FY = true) ∨ (m = 3 ∧ FX = true ∧ FY = true ∧ FZ = true)) ∧ Below W2.heap.size W2 wr) (fun i _ => 3 - (intOf i).toNat)
 case atStart => exact ⟨0,rfl,.inl rfl,Below.refl _ _⟩
 case round =>
  obtain ⟨m,rfl,hm,hwr⟩:=hrel
  have hkept:=keep hkept hwr
  clear hK
  have hK:=hkept;simp only [Kept,ka,kb,kc,kd,ke,kf,kg] at hK
  have W3b:=below_step W2b hwr
  rcases hm with rfl | ⟨rfl,rfl⟩ | ⟨rfl,rfl,rfl⟩ | ⟨rfl,rfl,rfl,rfl⟩
  ·cases FX
   ·go_upto_region 4 with fail
    refine wp_region_lit ?_
    refine Fl.wp_op rfl (RgV x0 x1) wr (by kernel_rfl) ?_
    go_simp
    go_wp2_with (first | (go_at_call 204;refine (finite_any [x0,x1] (some ⟨_,0,none⟩) _ 0 2 _ (fun _ => rfl) ?_ (by simp)).mono ?_;(focus (intro i hi;have h3:i = 0 ∨ i = 1:=(by simp at hi;omega);rcases h3 with rfl | rfl <;> simp));rintro _ w8 ⟨rfl,hb1⟩;have hbx:=below_step ((hwr.alloc hwr.size _).alloc (Nat.le_trans hwr.size (by simp)) _) hb1;have hkept:=keepT (keep (keep hkept ((Below.refl _ _).alloc (Nat.le_refl _) _)) ((Below.refl _ _).alloc (Nat.le_refl _) _)) hb1 rfl;clear hK;have hK:=hkept;simp only [Kept,ka,kb,kc,kd,ke,kf,kg] at hK;rw [hX]) | (go_at_call 138;refine (anywhere_any _).mono ?_;rintro _ w9 ⟨l1,u1,rfl,e1,hb1⟩;have hbx:=below_step hbx hb1;have hkept:=keepT hkept hb1 rfl;clear hK;have hK:=hkept;simp only [Kept,ka,kb,kc,kd,ke,kf,kg] at hK))
    exact bodyPost_ret (v:=RgV l1 u1) (by simp [results,Tryz.results135,go_sem,hK,World.cell?_setCell_other,World.cell?_setCell_same'];first | done | exact ⟨rfl,rfl⟩) rfl ⟨_,_,rfl,by rw [e1];simp only [Bool.false_and,Bool.and_false,Bool.true_and];rfl,bel2 (below_step W2b hbx) (by omega) ..⟩
   ·go_upto_region 4 with fail
    refine wp_region_lit ?_
    refine Fl.wp_op rfl (RgV x0 x1) wr (by kernel_rfl) ?_
    go_simp
    go_wp2_with (first | (go_at_call 204;refine (finite_any [x0,x1] (some ⟨_,0,none⟩) _ 0 2 _ (fun _ => rfl) ?_ (by simp)).mono ?_;(focus (intro i hi;have h3:i = 0 ∨ i = 1:=(by simp at hi;omega);rcases h3 with rfl | rfl <;> simp));rintro _ w8 ⟨rfl,hb1⟩;have hbx:=below_step ((hwr.alloc hwr.size _).alloc (Nat.le_trans hwr.size (by simp)) _) hb1;have hkept:=keepT (keep (keep hkept ((Below.refl _ _).alloc (Nat.le_refl _) _)) ((Below.refl _ _).alloc (Nat.le_refl _) _)) hb1 rfl;clear hK;have hK:=hkept;simp only [Kept,ka,kb,kc,kd,ke,kf,kg] at hK;rw [hX]) | (go_at_call 138;refine (anywhere_any _).mono ?_;rintro _ w9 ⟨l1,u1,rfl,e1,hb1⟩;have hbx:=below_step hbx hb1;have hkept:=keepT hkept hb1 rfl;clear hK;have hK:=hkept;simp only [Kept,ka,kb,kc,kd,ke,kf,kg] at hK))
    exact ⟨⟨1,rfl,by simp,hbx⟩,by simp [intOf]⟩
  ·cases FY
   ·go_upto_region 4 with fail
    refine wp_region_lit ?_
    refine Fl.wp_op rfl (RgV y0 y1) wr (by kernel_rfl) ?_
    go_simp
    go_wp2_with (first | (go_at_call 204;refine (finite_any [y0,y1] (some ⟨_,0,none⟩) _ 0 2 _ (fun _ => rfl) ?_ (by simp)).mono ?_;(focus (intro i hi;have h3:i = 0 ∨ i = 1:=(by simp at hi;omega);rcases h3 with rfl | rfl <;> simp));rintro _ w8 ⟨rfl,hb1⟩;have hbx:=below_step ((hwr.alloc hwr.size _).alloc (Nat.le_trans hwr.size (by simp)) _) hb1;have hkept:=keepT (keep (keep hkept ((Below.refl _ _).alloc (Nat.le_refl _) _)) ((Below.refl _ _).alloc (Nat.le_refl _) _)) hb1 rfl;clear hK;have hK:=hkept;simp only [Kept,ka,kb,kc,kd,ke,kf,kg] at hK;rw [hY]) | (go_at_call 138;refine (anywhere_any _).mono ?_;rintro _ w9 ⟨l1,u1,rfl,e1,hb1⟩;have hbx:=below_step hbx hb1;have hkept:=keepT hkept hb1 rfl;clear hK;have hK:=hkept;simp only [Kept,ka,kb,kc,kd,ke,kf,kg] at hK))
    exact bodyPost_ret (v:=RgV l1 u1) (by simp [results,Tryz.results135,go_sem,hK,World.cell?_setCell_other,World.cell?_setCell_same'];first | done | exact ⟨rfl,rfl⟩) rfl ⟨_,_,rfl,by rw [e1];simp only [Bool.false_and,Bool.and_false,Bool.true_and];rfl,bel2 (below_step W2b hbx) (by omega) ..⟩
   ·go_upto_region 4 with fail
    refine wp_region_lit ?_
    refine Fl.wp_op rfl (RgV y0 y1) wr (by kernel_rfl) ?_
    go_simp
    go_wp2_with (first | (go_at_call 204;refine (finite_any [y0,y1] (some ⟨_,0,none⟩) _ 0 2 _ (fun _ => rfl) ?_ (by simp)).mono ?_;(focus (intro i hi;have h3:i = 0 ∨ i = 1:=(by simp at hi;omega);rcases h3 with rfl | rfl <;> simp));rintro _ w8 ⟨rfl,hb1⟩;have hbx:=below_step ((hwr.alloc hwr.size _).alloc (Nat.le_trans hwr.size (by simp)) _) hb1;have hkept:=keepT (keep (keep hkept ((Below.refl _ _).alloc (Nat.le_refl _) _)) ((Below.refl _ _).alloc (Nat.le_refl _) _)) hb1 rfl;clear hK;have hK:=hkept;simp only [Kept,ka,kb,kc,kd,ke,kf,kg] at hK;rw [hY]) | (go_at_call 138;refine (anywhere_any _).mono ?_;rintro _ w9 ⟨l1,u1,rfl,e1,hb1⟩;have hbx:=below_step hbx hb1;have hkept:=keepT hkept hb1 rfl;clear hK;have hK:=hkept;simp only [Kept,ka,kb,kc,kd,ke,kf,kg] at hK))
    exact ⟨⟨2,rfl,by simp,hbx⟩,by simp [intOf]⟩
  ·cases FZ
   ·go_upto_region 4 with fail
    refine wp_region_lit ?_
    refine Fl.wp_op rfl (RgV z0 z1) wr (by kernel_rfl) ?_
    go_simp
    go_wp2_with (first | (go_at_call 204;refine (finite_any [z0,z1] (some ⟨_,0,none⟩) _ 0 2 _ (fun _ => rfl) ?_ (by simp)).mono ?_;(focus (intro i hi;have h3:i = 0 ∨ i = 1:=(by simp at hi;omega);rcases h3 with rfl | rfl <;> simp));rintro _ w8 ⟨rfl,hb1⟩;have hbx:=below_step ((hwr.alloc hwr.size _).alloc (Nat.le_trans hwr.size (by simp)) _) hb1;have hkept:=keepT (keep (keep hkept ((Below.refl _ _).alloc (Nat.le_refl _) _)) ((Below.refl _ _).alloc (Nat.le_refl _) _)) hb1 rfl;clear hK;have hK:=hkept;simp only [Kept,ka,kb,kc,kd,ke,kf,kg] at hK;rw [hZ]) | (go_at_call 138;refine (anywhere_any _).mono ?_;rintro _ w9 ⟨l1,u1,rfl,e1,hb1⟩;have hbx:=below_step hbx hb1;have hkept:=keepT hkept hb1 rfl;clear hK;have hK:=hkept;simp only [Kept,ka,kb,kc,kd,ke,kf,kg] at hK))
    exact bodyPost_ret (v:=RgV l1 u1) (by simp [results,Tryz.results135,go_sem,hK,World.cell?_setCell_other,World.cell?_setCell_same'];first | done | exact ⟨rfl,rfl⟩) rfl ⟨_,_,rfl,by rw [e1];simp only [Bool.false_and,Bool.and_false,Bool.true_and];rfl,bel2 (below_step W2b hbx) (by omega) ..⟩
   ·go_upto_region 4 with fail
    refine wp_region_lit ?_
    refine Fl.wp_op rfl (RgV z0 z1) wr (by kernel_rfl) ?_
    go_simp
    go_wp2_with (first | (go_at_call 204;refine (finite_any [z0,z1] (some ⟨_,0,none⟩) _ 0 2 _ (fun _ => rfl) ?_ (by simp)).mono ?_;(focus (intro i hi;have h3:i = 0 ∨ i = 1:=(by simp at hi;omega);rcases h3 with rfl | rfl <;> simp));rintro _ w8 ⟨rfl,hb1⟩;have hbx:=below_step ((hwr.alloc hwr.size _).alloc (Nat.le_trans hwr.size (by simp)) _) hb1;have hkept:=keepT (keep (keep hkept ((Below.refl _ _).alloc (Nat.le_refl _) _)) ((Below.refl _ _).alloc (Nat.le_refl _) _)) hb1 rfl;clear hK;have hK:=hkept;simp only [Kept,ka,kb,kc,kd,ke,kf,kg] at hK;rw [hZ]) | (go_at_call 138;refine (anywhere_any _).mono ?_;rintro _ w9 ⟨l1,u1,rfl,e1,hb1⟩;have hbx:=below_step hbx hb1;have hkept:=keepT hkept hb1 rfl;clear hK;have hK:=hkept;simp only [Kept,ka,kb,kc,kd,ke,kf,kg] at hK))
    exact ⟨⟨3,rfl,by simp,hbx⟩,by simp [intOf]⟩
  ·clear hX hY hZ
   go_upto_region 11 with fail
   refine Qg.wp_gd 12 (by kernel_rfl) (by kernel_rfl) PhiRg (GdL [] wr [] [(8,#[F1 0,F1 0],118),(9,#[F1 0,F1 0],118),(10,#[F1 0,F1 0],118)] 1000 (fun _ => True)) [8,9,10] (gdl_lasts ..) (gdl_start (by intro d hd;simp at hd;rcases hd with rfl | rfl | rfl | rfl <;> rfl) rfl) ?_
   intro hC0
   repeat (first | (refine Qg.walk_step fun K hK => ?_;apply Qg.one_det hC0 (by intro d hd;cases hd;decide) rfl;(focus (intro w' hw';have HK:=keep hkept hw';simp only [Kept,ka,kb,kc,kd,ke,kf,kg] at HK;go_simp;first | done | rfl));(focus (intro w' hw' hs;exact gdl_no (by decide) (by decide) (by decide)));go_simp;refine hK _ ?_;clear hK K) | (refine Qg.walk_step fun K hK => ?_;refine Qg.one_new (.cells #[F1 0,F1 0] 118) hC0 rfl ?_ ?_ ?_ ?_;(focus (intro w' hw';go_simp;first | done | rfl));(focus (intro w' hw';exact hw'.alloc hw'.size _));(focus (intro w' hw';exact gdl_new (by decide) (by simp) (by decide) hw'));intro _;go_simp;refine hK _ ?_;clear hK K) | (refine Qg.walk_step fun K hK => ?_;apply Qg.one_call _ _ hC0 (by intro d hd;cases hd;decide) rfl;(focus (intro w' hw';go_simp;first | done | exact ⟨rfl,rfl⟩));(focus (exact ⟨_,PhiRg.sizer _ _ _ _ (cn_size _ _)⟩));(focus (intro w' hw' hs;go_at_call 215;refine (sizer_any _ _ _).mono ?_;rintro _ wA ⟨l1,u1,rfl,e1,hb1⟩;exact ⟨_,rfl,PhiRg.sizer _ _ _ _ e1,gdl_no (by decide) (by decide) (by decide),below_step hw' hb1,hb1⟩));intro v hv;cases hv;go_simp;refine hK _ ?_;clear hK K))
   rename_i l1 u1 e1 l2 u2 e2 l3 u3 e3 ga gb gc
   refine Qg.walk_nil fun w6 hw6 hE => ?_
   obtain ⟨g,ee,hga,hca⟩:=(hE.1 8).2.1 (8,#[F1 0,F1 0],118) (by simp) rfl _ rfl
   injection ee with ee;injection ee with ee;subst ee
   obtain ⟨g,ee,hgb,hcb⟩:=(hE.1 9).2.1 (9,#[F1 0,F1 0],118) (by simp) rfl _ rfl
   injection ee with ee;injection ee with ee;subst ee
   obtain ⟨g,ee,hgc,hcc⟩:=(hE.1 10).2.1 (10,#[F1 0,F1 0],118) (by simp) rfl _ rfl
   injection ee with ee;injection ee with ee;subst ee
   have n1:ga ≠ gb:=fun h => hE.2.2 8 (by simp) 9 (by simp) (by decide) ga rfl (by rw [h];rfl)
   have n2:ga ≠ gc:=fun h => hE.2.2 8 (by simp) 10 (by simp) (by decide) ga rfl (by rw [h];rfl)
   have n3:gb ≠ gc:=fun h => hE.2.2 9 (by simp) 10 (by simp) (by decide) gb rfl (by rw [h];rfl)
   clear hE hC0
   obtain ⟨hset,hbw⟩:=three2 hca hcb hcc n1 n2 n3 hga hgb hgc (F1 l1) (F1 u1) (F1 l2) (F1 u2) (F1 l3) (F1 u3)
   have hbw:=hw6.trans hbw
   obtain ⟨pa0,pa1,fa0,fa1⟩:=cells2 hca
   obtain ⟨pb0,pb1,fb0,fb1⟩:=cells2 hcb
   obtain ⟨pc0,pc1,fc0,fc1⟩:=cells2 hcc
   clear hca hcb hcc
   go_upto_region 12 with fail
   clear pa0 pa1 fa0 fa1 pb0 pb1 fb0 fb1 pc0 pc1 fc0 fc1
   have hkept:=kept_app (keep hkept hbw) hset
   have W7b:=below_step W3b hbw
   clear hset hK hw6
   generalize ((((((w6.setCell ⟨ga,0,none⟩ (F1 l1)).setCell ⟨ga,1,none⟩ (F1 u1)).setCell ⟨gb,0,none⟩ (F1 l2)).setCell ⟨gb,1,none⟩ (F1 u2)).setCell ⟨gc,0,none⟩ (F1 l3)).setCell ⟨gc,1,none⟩ (F1 u3)) = w7 at *
   have hK:=hkept;simp only [Kept,ka,kb,kc,kd,ke,kf,kg] at hK
   refine Qr.wp_below 19 (by kernel_rfl) (by kernel_rfl) (PhiLf b o (fun x y z => boxF x y z (cn .f32 r0) (cn .f32 r1) (cn .f32 r2))) ?_
   repeat (first | (refine Qr.walk_plain rfl fun K hK => ?_;apply Qr.one_det;(focus (intro w' hw';have HK:=keep hkept hw';simp only [Kept,ka,kb,kc,kd,ke,kf,kg] at HK;go_simp;first | done | rfl));go_simp;refine hK _ ?_;clear hK K) | (refine Qr.walk_plain rfl fun K hK => ?_;apply Qr.one_call;(focus (intro w' hw';go_simp;first | done | exact ⟨rfl,rfl⟩));(focus (intro w' hw'; have HK2:=keep hkept hw';simp only [Kept,ka,kb,kc,kd,ke,kf,kg] at HK2;go_at_call 217;refine (leaf_box b o bv ov cap r0 r1 r2 _ _ _ _ (by simp only [HK2]) (by simp only [HK2]) (by simp only [HK2]) (by simp only [HK2]) (by simp only [HK2])).mono ?_;rintro _ w2 ⟨r1,rfl,hr1,hb1⟩;exact ⟨_,rfl,.leaf _ _ _ _ hr1,below_step hw' (by assumption),by assumption⟩));intro v hv;cases hv;go_simp;refine hK _ ?_;clear hK K))
   rename_i q1 h1 q2 h2
   refine Qr.walk_nil fun w8 hw8 => ?_
   have hkept:=keep hkept hw8
   have W8b:=below_step W7b hw8
   clear hK
   have hK:=hkept
   simp only [Kept,ka,kb,kc,kd,ke,kf,kg] at hK
   go_wp2_with fail
   exact bodyPost_ret (v:=RgV q1 q2) (by simp [results,Tryz.results135,go_sem,hK,World.cell?_setCell_other,World.cell?_setCell_same'];first | done | exact ⟨rfl,rfl⟩) rfl ⟨_,_,rfl,by rw [h1,h2];simp only [leafG,endsR,Bool.and_self,if_true];rw [← e1,← e2,← e3],bel2 W8b (by omega) ..⟩
end Go.Proofs.YtbiacfkiakddiaaGreat
