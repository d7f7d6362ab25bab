/-
 Lemmas: C5.
-/
import Derived.Test.YtbiacfkiakddiaaGreatJbo
set_option linter.unusedVariables false
set_option linter.unusedSimpArgs false
namespace Go.Proofs.YtbiacfkiakddiaaGreat
open Go.RowKit Go.Fl
theorem row_mrk {w w':World} {lo G hi:Nat} {e:TypeId} {size n:Nat} {v:Value} {xs:List Value} (h:w.ownsRow lo e size v n xs) (hm:Mrk G hi w w') (hl:hi ≤ lo):w'.ownsRow lo e size v n xs:=by
 obtain ⟨h1,h2 | ⟨g,cap,cur,hv,hb,hg,r⟩⟩:=h
 ·exact ⟨h1,.inl h2⟩
 ·exact ⟨h1,.inr ⟨g,cap,cur,hv,hb,by rw [hm.high g (Nat.le_trans hl hb) (Array.getElem?_eq_some_iff.1 hg).1];exact hg,r⟩⟩
theorem Mid.mrk {lo hi:Nat} {w w':World} (h:Mid lo hi w w'):Mrk lo hi w w':=⟨h.low,fun b hb _ => h.high b hb⟩

theorem szL_le:∀ (ns:List PN) (l:Int),0 ≤ l → szL ns l ≤ l
 | [],l,_ => Int.le_refl _
 | n :: r,l,h => by
  unfold szL
  split
  ·omega
  ·rename_i ht
   have h1:=szL_le r (takeL n.nums.length l) (by omega)
   have h2:takeL n.nums.length l ≤ l:=by unfold takeL;split <;> omega
   omega
theorem szS_le (ns:List PN) (l:Int) (h:0 ≤ l):szS ns l ≤ l:=by
 unfold szS
 split
 ·omega
 ·rename_i ht
  have h1:=szL_le ns (takeL ns.length l) (by omega)
  have h2:takeL ns.length l ≤ l:=by unfold takeL;split <;> omega
  omega

/-- Both sides tell the same points. -/
theorem con_same {ns:List PN} (hv:validF ns = true) (near:Nat) (P:Nat → Nat × Nat × Nat):∀ n,conL (fun p => sizeS (atS ns p)) near P n = conL (fun p => sizeF (topF ns p)) near P n
 | 0 => rfl
 | n + 1 => by
  have h1:=con_same hv near P n
  have h2:lek .f32 (sizeS (atS ns (cn3 (P n)))) near = lek .f32 (sizeF (topF ns (cn3 (P n)))) near:=by
   unfold lek;rw [Zw.order (zw_size (top_same (tree_of hv) (cn3 (P n)))) (Zw.refl _ near)]
  simp only [conL,h1,h2]


set_option maxRecDepth 100000 in
set_option maxHeartbeats 16000000 in
theorem walk_contacts (ns:List PN) (bp:Option Addr) (nb no cap near n pg po pcap:Nat) (P:Nat → Nat × Nat × Nat) (pp:Option Addr) (w:World) (hns:NodesIn ns bp nb no w) (hn:(n:Int) ≤ 1048576) (hpp:n ≠ 0 → pp = some ⟨pg,po,none⟩) (hP:PtsIn n pg po P w)
  (bv:Bool) (sz:Int) (hpos:0 ≤ sz) (hsm:(ns.length:Int) ≤ 1048576) (hnsm:∀ n ∈ ns,(n.nums.length:Int) ≤ 1048576) (sz2:Int) (hpos2:0 ≤ sz2)
  (hsz:∀ w',Below w.heap.size w w' → Calls Tryz.prog 13 #[.agg #[.slice bp ns.length cap],.int .i64 1048576] w' (fun e w'' => e = .returned (.int .i64 sz) ∧ Below w'.heap.size w' w''))
  (hszv:∀ w',Calls Tryz.prog 31 #[.slice pp n pcap,.int .i64 sz] w' (fun e w'' => e = .returned (.int .i64 sz2) ∧ Below w'.heap.size w' w''))
  (L:List Int) (hL:L.length ≤ 1000000)
  (hspec:∀ G H (w':World),(∀ i (h:i < ns.length),NodeNew ns[i] G (0 + i * 4) w') → PtsIn n H 0 P w' → Calls Tryz.prog 32 #[.agg #[.slice (some ⟨G,0,none⟩) ns.length ns.length],.slice (some ⟨H,0,none⟩) n n,F1 near] w' (fun e w'' => ∃ u,e = .returned (.tuple #[u,.bool bv]) ∧ w''.ownsRow w'.heap.size 2 1 u L.length (il L) ∧ Below w'.heap.size w' w''))
  (himpl:∀ G H (w':World),(∀ i (h:i < ns.length),NodeNew ns[i] G (0 + i * 4) w') → PtsIn n H 0 P w' → Calls Tryz.prog 34 #[.agg #[.slice (some ⟨G,0,none⟩) ns.length ns.length],.slice (some ⟨H,0,none⟩) n n,F1 near] w' (fun e w'' => ∃ u,e = .returned (.tuple #[u,.bool bv]) ∧ w''.ownsRow w'.heap.size 2 1 u L.length (il L) ∧ Below w'.heap.size w' w'')) :
  Calls Tryz.prog 6 #[.agg #[.slice bp ns.length cap],.slice pp n pcap,F1 near] w (fun e' w' => e' = .returned (.bool true) ∧ Below w.heap.size w w'):=by
 have hto:∀ w',Below w.heap.size w w' → Calls Tryz.prog 15 #[.agg #[.slice bp ns.length cap]] w' (RetSh ns w'):=fun w' hb => to_shape ns hsm hnsm bp nb no cap w' (hns.keep hb)
 have htw:∀ w',Below w.heap.size w w' → Calls Tryz.prog 15 #[.agg #[.slice bp ns.length cap]] w' (RetShW ns w'):=fun w' hb => to_shapeW ns hsm hnsm bp nb no cap w' (hns.keep hb)
 have htv:∀ w',Below w.heap.size w w' → Calls Tryz.prog 33 #[.slice pp n pcap] w' (fun e w'' => ∃ G,e = .returned (.slice (some ⟨G,0,none⟩) n n) ∧ VcOwn n G P w'' ∧ w'.heap.size ≤ G ∧ G < w''.heap.size ∧ Below w'.heap.size w' w''):=fun w' hb => to_vecs n pg po pcap P pp w' hn hpp (hP.keep hb)
 have heqs:∀ G H (w':World),(∀ i (h:i < ns.length),NodeNew ns[i] G (0 + i * 4) w') → (∀ i (h:i < ns.length),NodeNew ns[i] H (0 + i * 4) w') → Calls Tryz.prog 19 #[.agg #[.slice (some ⟨G,0,none⟩) ns.length ns.length],.agg #[.slice (some ⟨H,0,none⟩) ns.length ns.length]] w' (fun e w'' => e = .returned (.bool true) ∧ Below w'.heap.size w' w'') :=
  fun G H w' h1 h2 => eq_shape ns hsm hnsm G H _ _ w' h1 h2
 have hsN:ns.length ≤ 1048576:=by omega
 have hnN:n ≤ 1048576:=by omega
 have hnsM:=Lib.hid hnsm
 clear hnsm hns hsm hP hpp
 go_enter Tryz.func6,Tryz.ntmps6
 go_wp2_with fail
 have W1b:Below w.heap.size w (w.alloc (.cells #[.slice bp ns.length cap] 24)):=(by repeat' (first | exact Below.refl _ _ | exact Nat.le_refl _ | refine below_drewN ?_ _ | refine Below.alloc ?_ (by first | (simp;done) | (simp;omega)) _ | refine Below.setCell ?_ (by first | (simp;done) | (simp;omega)) _ | refine below_step ?_ (by assumption)))
 
 have hkept:Kept [(⟨w.heap.size,0,none⟩,.slice bp ns.length cap)] [] (w.alloc (.cells #[.slice bp ns.length cap] 24)):=by
  simp only [Kept,ka,kb,kc,kd,ke,and_true,true_and];(first | (go_simp;done) | (simp [World.cell?,World.frozen?,World.alloc,Array.getElem?_push];done))
 generalize w.alloc (.cells #[.slice bp ns.length cap] 24) = W1 at *
 refine (hsz _ W1b).mono ?_
 rintro _ w2 ⟨rfl,hb2⟩
 have W2b:=below_step W1b hb2
 have hkept:=keep hkept hb2
 clear hb2 W1b hsz
 have hK:=hkept;simp only [Kept,ka,kb,kc,kd,ke,and_true,true_and] at hK
 go_upto_region 8 with (go_at_call 31;refine (hszv _).mono ?_;rintro _ w5 ⟨rfl,hb1⟩;have W5b:=below_step W2b hb1;have hkept:=keepT hkept hb1 rfl;clear hK;have hK:=hkept;simp only [Kept,ka,kb,kc,kd,ke,and_true,true_and] at hK)
 clear hszv hb1 W2b
 go_upto_region 9 with (first
  | (go_at_call 15;refine (hto _ W5b).mono ?_;rintro _ wA ⟨G,rfl,hnewG,hG,hb1⟩;have WAb:=below_step W5b hb1;have hkept:=keepT hkept hb1 rfl;clear hK;have hK:=hkept;simp only [Kept,ka,kb,kc,kd,ke,and_true,true_and] at hK)
  | (go_at_call 33;refine (htv _ WAb).mono ?_;rintro _ wB ⟨H,rfl,hvH,hH,hHs,hb1⟩;have WBb:=below_step WAb hb1;have hnewG:=(fun i h => (hnewG i h).keep hb1);have hkept:=keepT hkept hb1 rfl;clear hK;have hK:=hkept;simp only [Kept,ka,kb,kc,kd,ke,and_true,true_and] at hK)
  | (go_at_call 32;refine (hspec _ _ _ hnewG hvH.2).mono ?_;rintro _ w8 ⟨u8,rfl,hR8,hb1⟩;have W8b:=below_step WBb hb1;have hkept:=keepT hkept hb1 rfl;clear hK;have hK:=hkept;simp only [Kept,ka,kb,kc,kd,ke,and_true,true_and] at hK))
 clear hspec hb1
 have hR:=il_read hR8
 clear hR8
 have hkept8:=Lib.hid hkept
 have h08:=W8b.size
 have W6c:=Below.refl w8.heap.size w8
 clear W5b WAb WBb hvH hnewG hH hHs hG
 go_upto_region 10 with (go_at_call 15;refine (htw _ W8b).mono ?_;rintro _ wC ⟨X,rfl,hnewF,hX,hb1,hXs,hfr⟩)
 have hsw:ShW ns.length X wC.heap.size wC:=shw_new hnsM.out hnewF hXs hfr
 have hb7:Below wC.heap.size wC (wC.alloc (.cells #[.slice (some ⟨X,0,none⟩) ns.length ns.length] 36)):=(Below.refl _ _).alloc (Nat.le_refl _) _
 have hnew:∀ i (h:i < ns.length),NodeNew ns[i] X (0 + i * 4) (wC.alloc (.cells #[.slice (some ⟨X,0,none⟩) ns.length ns.length] 36)):=fun i h => (hnewF i h).1.keep hb7
 have hsw9:=hsw.keep hb7 (Nat.le_refl _)
 have hA9:=hb7.size
 have W6c:=below_step hb1 hb7
 have W9b:=below_step W8b W6c
 have h89:=W6c.size
 have hkept:=kept_app (keep (keep hkept hb1) hb7) (show Kept [(⟨wC.heap.size,0,none⟩,.slice (some ⟨X,0,none⟩) ns.length ns.length)] [] (wC.alloc (.cells #[.slice (some ⟨X,0,none⟩) ns.length ns.length] 36)) by simp only [Kept,ka,kb,kc,kd,ke,and_true,true_and];simp)
 clear hK hb1 hb7 W8b hsw hnewF hfr
 generalize wC.alloc (.cells #[.slice (some ⟨X,0,none⟩) ns.length ns.length] 36) = w9 at *
 generalize wC.heap.size = hi at *
 clear hXs
 have hK:=hkept;simp only [Kept,ka,kb,kc,kd,ke,and_true,true_and] at hK
 go_upto_region 11 with (go_at_call 33;refine (htv _ W9b).mono ?_;rintro _ w10 ⟨Y,rfl,hvY,hY,hYs,hb1⟩;have W10b:=below_step W9b hb1;have W6c:=below_step W6c hb1;have hnew:=(fun i h => (hnew i h).keep hb1);have hsw10:=hsw9.keep hb1 hA9;have h910:=hb1.size;have hkept:=keepT hkept hb1 rfl;clear hK;have hK:=hkept;simp only [Kept,ka,kb,kc,kd,ke,and_true,true_and] at hK)
 clear hb1 W9b hsw9
 go_upto_region 12 with (go_at_call 34;refine (himpl _ _ _ hnew hvY.2).mono ?_;rintro _ w11 ⟨u11,rfl,hO11,hb1⟩;have W11b:=below_step W10b hb1;have W6c:=below_step W6c hb1;have hnew:=(fun i h => (hnew i h).keep hb1);have hsw11:=hsw10.keep hb1 (by omega);have hvY11:=hvY.keep hb1;have h1011:=hb1.size;have hkept:=keepT hkept hb1 rfl;clear hK;have hK:=hkept;simp only [Kept,ka,kb,kc,kd,ke,and_true,true_and] at hK)
 clear hb1 W10b hsw10 hvY
 have hRR:(bv != bv) = false:=by simp
 go_upto_region 14 with (go_at_call 35;refine (eq_ints L hL _ _ _ (il_read hO11) (hR.keep W6c)).mono ?_;rintro _ w12 ⟨rfl,hb1⟩;have W12b:=below_step W11b hb1;have W6c:=below_step W6c hb1;have hnew:=(fun i h => (hnew i h).keep hb1);have hsw12:=hsw11.keep hb1 (by omega);have hvY12:=hvY11.keep hb1;have hO12:=owns_below hO11 hb1;have h1012:=Nat.le_trans h1011 hb1.size;have hkept:=keepT hkept hb1 rfl;clear hK;have hK:=hkept;simp only [Kept,ka,kb,kc,kd,ke,and_true,true_and] at hK)
 clear hb1 W11b hsw11 hvY11 hO11 hK
 refine Qg.wp_gd_all (by kernel_rfl) (by kernel_rfl) (PhiW ns.length bv 32 34) (GdW ns [60] 100000 (fun _ _ => True)) [] (gdw_lasts _ _ _ (fun _ _ _ h _ => h)) (gdw_start (by intro d hd;simp at hd;rcases hd with rfl | rfl <;> rfl)) ?_
 intro hC0
 repeat (first
   | (refine Qg.walk_step fun K hK => ?_;apply Qg.one_det hC0 (by intro d hd;cases hd;decide) rfl;(focus (intro w' hw';have HK:=keep hkept hw';simp only [Kept,ka,kb,kc,kd,ke,and_true,true_and] at HK;go_simp;first | done | rfl));(focus (intro w' hw' hs;exact gdw_no (by decide) (by decide)));go_simp;refine hK _ ?_;clear hK K)
   | (refine Qg.walk_step fun K hK => ?_;apply Qg.one_call _ _ hC0 (by intro d hd;cases hd;decide) rfl;(focus (intro w' hw';go_simp;first | done | exact ⟨rfl,rfl⟩));(focus (apply Exists.intro;(constructor <;> first | exact (0:Nat) | exact undef)));(focus (intro w' hw' hs; go_at_call 15;(refine (hto _ (below_step W12b hw')).mono ?_);rintro _ wA ⟨G,rfl,hnew,hG,hb1⟩;exact ⟨_,rfl,PhiW.shape _ _,gdw_shape hnew (by decide),below_step hw' hb1,hb1⟩ ));intro v hv;cases hv;go_simp;refine hK _ ?_;clear hK K)
   | (refine Qg.walk_step fun K hK => ?_;apply Qg.one_call _ _ hC0 (by intro d hd;cases hd;decide) rfl;(focus (intro w' hw';go_simp;first | done | exact ⟨rfl,rfl⟩));(focus (apply Exists.intro;(constructor <;> first | exact (0:Nat) | exact undef)));(focus (intro w' hw' hs; go_at_call 19;refine (heqs _ _ _ (fun i h => (hnew i h).keep hw') ((hs 60 (of_decide_eq_true (by kernel_rfl))).1 (by decide) _ rfl)).mono ?_;rintro _ wA ⟨rfl,hb1⟩;exact ⟨_,rfl,PhiW.eqs _,gdw_no (by decide) (by decide),below_step hw' hb1,hb1⟩ ));intro v hv;cases hv;go_simp;refine hK _ ?_;clear hK K))
 refine Qg.walk_nil fun w14 hw14 hE => ?_
 clear hE hC0
 have hkept:=keep hkept hw14
 have W14b:=below_step W12b hw14
 have W6c:=below_step W6c hw14
 have hsw14:=hsw12.keep hw14 (by omega)
 have hvY14:=hvY12.keep hw14
 have hO14:=owns_below hO12 hw14
 have h1014:=Nat.le_trans h1012 hw14.size
 clear hw14 hsw12 hvY12 hO12 hnew W12b
 have hK:=hkept;simp only [Kept,ka,kb,kc,kd,ke,and_true,true_and] at hK
 go_upto_region 18 with (first
  | (go_at_call 33;refine (htv _ W14b).mono ?_;rintro _ wB ⟨Z,rfl,hvZ,hZ,hZs,hb1⟩;have WBb:=below_step W14b hb1;have W6c:=below_step W6c hb1;have hswB:=hsw14.keep hb1 (by omega);have hvYB:=hvY14.keep hb1;have hOB:=owns_below hO14 hb1;have h10B:=Nat.le_trans h1014 hb1.size;have hkept:=keepT hkept hb1 rfl;clear hK;have hK:=hkept;simp only [Kept,ka,kb,kc,kd,ke,and_true,true_and] at hK)
  | (go_at_call 36;refine (eq_vecs n _ _ _ _ hnN P _ hvYB.2 hvZ.2).mono ?_;rintro _ w16 ⟨rfl,hb1⟩;have W16b:=below_step WBb hb1;have W6c:=below_step W6c hb1;have hsw16:=hswB.keep hb1 (by omega);have hvY16:=hvYB.keep hb1;have hO16:=owns_below hOB hb1;have h1016:=Nat.le_trans h10B hb1.size;have hkept:=keepT hkept hb1 rfl;clear hK;have hK:=hkept;simp only [Kept,ka,kb,kc,kd,ke,and_true,true_and] at hK))
 clear hb1 W14b hsw14 hvY14 hO14 WBb hswB hvYB hOB hvZ hZ hZs
 have hms:=mark_shapeB ns.length hsN X hi 1 ⟨by decide,by decide⟩ w16 hsw16 hsw16.1 (by omega)
 go_upto_region 20 with (go_at_call 20;refine hms.mono ?_;rintro _ w19 ⟨k',rfl,hk',hm,hk2⟩;have hO19:=row_mrk hO16 hm (by omega);have W19b:=W16b.trans (hm.low.mono (Nat.le_trans h08 hX));have W6c:=W6c.trans (hm.low.mono hX);have h1019:=Nat.le_trans h1016 hm.low.size;have hvY19:∃ A:Array Value,A.size = n * 3 ∧ w19.heap[Y]? = some (.cells A 38 (0,0)):=(by obtain ⟨A,hA1,hA2⟩:=hvY16.1;exact ⟨A,hA1,by rw [hm.high Y (by omega) (Array.getElem?_eq_some_iff.1 hA2).1];exact hA2⟩);have hkept:=keep hkept8.out W6c;clear hK;have hK:=hkept;simp only [Kept,ka,kb,kc,kd,ke,and_true,true_and] at hK)
 clear hms hsw16 hO16 W16b hm hvY16
 have hmv:=mark_vecs n Y hnN k' ⟨hk',by omega⟩ w19 hvY19
 have hk3:0 ≤ k' + 3 * (n:Int):=by omega
 go_upto_region 21 with (go_at_call 37;refine hmv.mono ?_;rintro _ w20 ⟨rfl,hm⟩;have hO20:=row_mrk hO19 hm.mrk (by omega);have W20b:=W19b.trans (hm.low.mono (by omega));have W6c:=W6c.trans (hm.low.mono (by omega));have h1020:=Nat.le_trans h1019 hm.low.size;have hkept:=keep hkept8.out W6c;clear hK;have hK:=hkept;simp only [Kept,ka,kb,kc,kd,ke,and_true,true_and] at hK)
 clear hmv hvY19 hO19 W19b hm
 generalize k' + 3 * (n:Int) = k3 at *
 go_upto_region 23 with (go_at_call 35;refine (eq_ints L hL _ _ _ (il_read hO20) (hR.keep W6c)).mono ?_;rintro _ w21 ⟨rfl,hb1⟩;have W21b:=below_step W20b hb1;have W6c:=below_step W6c hb1;have hO21:=owns_below hO20 hb1;have h1021:=Nat.le_trans h1020 hb1.size;have hkept:=keepT hkept hb1 rfl;clear hK;have hK:=hkept;simp only [Kept,ka,kb,kc,kd,ke,and_true,true_and] at hK)
 clear hb1 W20b hO20
 have hmi:=mark_ints L hL _ _ 1 ⟨by decide,by decide⟩ w21 hO21
 go_upto_region 26 with (go_at_call 38;refine hmi.mono ?_;rintro _ w24 ⟨rfl,hM24,hb24⟩;have W24b:=W21b.trans (hb24.mono (by omega));have W6c:=W6c.trans (hb24.mono (by omega));have hI24:=il_read (xs:=mkI L 1 L.length) (by rw [mkI_len];exact hM24);have hkept:=keep hkept8.out W6c;clear hK;have hK:=hkept;simp only [Kept,ka,kb,kc,kd,ke,and_true,true_and] at hK)
 clear hmi hO21 W21b hb24 hM24
 have hQ:(0:Int) ≤ 1 + (L.length:Int):=by omega
 have hQQ:(1 + (L.length:Int) != 1 + (L.length:Int)) = false:=by simp
 have hhe:=fun w' h => held_ints L hL u11 1 ⟨by decide,by decide⟩ w' h
 generalize 1 + (L.length:Int) = Q at *
 go_upto_region 31 with (go_at_call 39;refine (hhe _ hI24).mono ?_;rintro _ w26 ⟨rfl,hb1⟩;have W26b:=below_step W24b hb1;have W6c:=below_step W6c hb1;have hI26:=hI24.keep hb1;have hkept:=keepT hkept hb1 rfl;clear hK;have hK:=hkept;simp only [Kept,ka,kb,kc,kd,ke,and_true,true_and] at hK)
 clear hb1 W24b hI24
 go_upto_region 32 with (first
  | (go_at_call 15;refine (hto _ W26b).mono ?_;rintro _ wA ⟨G,rfl,hnewG,hG,hb1⟩;have WAb:=below_step W26b hb1;have W6c:=below_step W6c hb1;have hIA:=hI26.keep hb1;have hkept:=keepT hkept hb1 rfl;clear hK;have hK:=hkept;simp only [Kept,ka,kb,kc,kd,ke,and_true,true_and] at hK)
  | (go_at_call 33;refine (htv _ WAb).mono ?_;rintro _ wB ⟨H,rfl,hvH,hH,hHs,hb1⟩;have WBb:=below_step WAb hb1;have W6c:=below_step W6c hb1;have hIB:=hIA.keep hb1;have hnewG:=(fun i h => (hnewG i h).keep hb1);have hkept:=keepT hkept hb1 rfl;clear hK;have hK:=hkept;simp only [Kept,ka,kb,kc,kd,ke,and_true,true_and] at hK)
  | (go_at_call 34;refine (himpl _ _ _ hnewG hvH.2).mono ?_;rintro _ w31 ⟨u31,rfl,hO31,hb1⟩;have W31b:=below_step WBb hb1;have W6c:=below_step W6c hb1;have hI31:=hIB.keep hb1;have hkept:=keepT hkept hb1 rfl;clear hK;have hK:=hkept;simp only [Kept,ka,kb,kc,kd,ke,and_true,true_and] at hK))
 clear himpl hb1 WAb WBb hIA hIB hI26 hnewG hvH
 go_upto_region 34 with (go_at_call 35;refine (eq_ints L hL _ _ _ (il_read hO31) (hR.keep W6c)).mono ?_;rintro _ w32 ⟨rfl,hb1⟩;have W32b:=below_step W31b hb1;have hI32:=hI31.keep hb1;have hkept:=keepT hkept hb1 rfl;clear hK;have hK:=hkept;simp only [Kept,ka,kb,kc,kd,ke,and_true,true_and] at hK)
 clear hb1 hO31 hI31 W31b
 go_wp2_with (go_at_call 39;refine (hhe _ hI32).mono ?_;rintro _ w35 ⟨rfl,hb1⟩;have W35b:=below_step W32b hb1)
 go_ret
 exact ⟨rfl,W35b⟩

set_option maxRecDepth 100000 in
set_option maxHeartbeats 4000000 in
theorem law_contacts (ns:List PN) (bp:Option Addr) (nb no cap n pg po pcap:Nat) (P:Nat → Nat × Nat × Nat) (pp:Option Addr) (near:Nat) (w:World) (hns:NodesIn ns bp nb no w) (hn63:(n:Int) ≤ 9223372036854775807) (hpp:n ≠ 0 → pp = some ⟨pg,po,none⟩) (hP:PtsIn n pg po P w) :
  Calls Tryz.prog 6 #[.agg #[.slice bp ns.length cap],.slice pp n pcap,F1 near] w (fun e' w' => e' = .returned (.bool true) ∧ Below w.heap.size w w'):=by
 have hsz:∀ w',Below w.heap.size w w' → Calls Tryz.prog 13 #[.agg #[.slice bp ns.length cap],.int .i64 1048576] w' (fun e w'' => e = .returned (.int .i64 (szS ns 1048576)) ∧ Below w'.heap.size w' w'') :=
  fun w' hb => sz_shape ns bp nb no cap 1048576 w' (hns.keep hb) (by omega)
 by_cases hneg:szS ns 1048576 < 0
 ·have hm:=szS_neg hneg
  rw [hm] at hsz
  clear hm hneg hns
  go_enter Tryz.func6,Tryz.ntmps6
  go_wp2_with (go_at_call 13;refine (hsz _ (by repeat' (first | exact Below.refl _ _ | exact Nat.le_refl _ | refine below_drewN ?_ _ | refine Below.alloc ?_ (by first | (simp;done) | (simp;omega)) _ | refine Below.setCell ?_ (by first | (simp;done) | (simp;omega)) _ | refine below_step ?_ (by assumption)))).mono ?_;rintro _ w2 ⟨rfl,hb2⟩)
  go_ret
  exact ⟨rfl,(by repeat' (first | exact Below.refl _ _ | exact Nat.le_refl _ | refine below_drewN ?_ _ | refine Below.alloc ?_ (by first | (simp;done) | (simp;omega)) _ | refine Below.setCell ?_ (by first | (simp;done) | (simp;omega)) _ | refine below_step ?_ (by assumption)))⟩
 ·obtain ⟨hsm,hnsm⟩:=szS_small (by omega) (by omega) hneg
  have hszu:szS ns 1048576 ≤ 1048576:=szS_le _ _ (by omega)
  have hszv:=fun w' => sz_vecs n pcap pp (szS ns 1048576) w' hn63 ⟨by omega,hszu⟩
  by_cases hnv:szS ns 1048576 < (n:Int)
  ·simp only [if_pos hnv] at hszv
   have hpos:0 ≤ szS ns 1048576:=by omega
   generalize szS ns 1048576 = sz at *
   clear hnsm hns hsm hneg
   go_enter Tryz.func6,Tryz.ntmps6
   go_wp2_with (first | (go_at_call 13;refine (hsz _ (by repeat' (first | exact Below.refl _ _ | exact Nat.le_refl _ | refine below_drewN ?_ _ | refine Below.alloc ?_ (by first | (simp;done) | (simp;omega)) _ | refine Below.setCell ?_ (by first | (simp;done) | (simp;omega)) _ | refine below_step ?_ (by assumption)))).mono ?_;rintro _ w2 ⟨rfl,hb2⟩) | (go_at_call 31;refine (hszv _).mono ?_;rintro _ w3 ⟨rfl,hb3⟩))
   go_ret
   exact ⟨rfl,(by repeat' (first | exact Below.refl _ _ | exact Nat.le_refl _ | refine below_drewN ?_ _ | refine Below.alloc ?_ (by first | (simp;done) | (simp;omega)) _ | refine Below.setCell ?_ (by first | (simp;done) | (simp;omega)) _ | refine below_step ?_ (by assumption)))⟩
  simp only [if_neg hnv] at hszv
  have hnum:∀ n ∈ ns,n.nums.length < 10000000:=fun n hn => by have:=hnsm n hn;omega
  have hl7:ns.length < 10000000:=by omega
  have hn20:n ≤ 1048576:=by omega
  have hsp:=fun G H w' hn hp => s_contacts_any ns hnum (fun h => (valid_ok (by rw [← valid_same];exact h)).2) G 0 ns.length near n H 0 n P (some ⟨G,0,none⟩) (some ⟨H,0,none⟩) w' (fun _ => rfl) hn hl7 (fun _ => rfl) hp hn20
  have him:=fun G H w' hn hp => contacts_any ns hnum G 0 ns.length near n H 0 n P (some ⟨G,0,none⟩) (some ⟨H,0,none⟩) w' (fun _ => rfl) hn hl7 (fun _ => rfl) hp hn20
  rw [valid_same] at hsp
  have hLL:(if conOk (validF ns) n (cn .f32 near) then conL (fun p => sizeS (atS ns p)) (cn .f32 near) P n else []) = (if conOk (validF ns) n (cn .f32 near) then conL (fun p => sizeF (topF ns p)) (cn .f32 near) P n else []):=by
   cases hv:validF ns
   ·rfl
   ·rw [con_same hv]
  have hlen:(if conOk (validF ns) n (cn .f32 near) then conL (fun p => sizeF (topF ns p)) (cn .f32 near) P n else []).length ≤ 1000000:=by
   have:=conL_len (fun p => sizeF (topF ns p)) (cn .f32 near) P n
   split
   ·rename_i hc
    simp only [conOk,Bool.and_eq_true,decide_eq_true_eq] at hc
    omega
   ·simp
  unfold RetIl at hsp him
  rw [hLL] at hsp
  generalize conOk (validF ns) n (cn .f32 near) = bv at *
  generalize (if bv then conL (fun p => sizeF (topF ns p)) (cn .f32 near) P n else []) = L at *
  clear hLL
  have hio:∀ {lo:Nat} {v:Value} {w:World},IlOwn lo v L w → w.ownsRow lo 2 1 v L.length (il L):=fun h => by
   rcases h with ⟨rfl,rfl⟩ | h
   ·exact row_nil ..
   ·exact h
  exact walk_contacts ns bp nb no cap near n pg po pcap P pp w hns (by omega) hpp hP bv _ (by omega) hsm hnsm _ (by omega) hsz hszv L hlen
   (fun G H w' hn hp => (hsp G H w' (fun i h => (hn i h).into) hp).mono fun e w'' ⟨u,h1,h2,h3⟩ => ⟨u,h1,hio h2,h3⟩)
   (fun G H w' hn hp => (him G H w' (fun i h => (hn i h).into) hp).mono fun e w'' ⟨u,h1,h2,h3⟩ => ⟨u,h1,hio h2,h3⟩)
end Go.Proofs.YtbiacfkiakddiaaGreat
