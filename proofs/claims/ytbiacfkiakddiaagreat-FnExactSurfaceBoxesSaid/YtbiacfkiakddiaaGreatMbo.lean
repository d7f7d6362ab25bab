/-
 Lemmas: V27,V33.
-/
import Derived.Test.YtbiacfkiakddiaaGreatMbf
import Derived.Test.YtbiacfkiakddiaaGreatMbm
set_option linter.unusedVariables false
set_option linter.unusedSimpArgs false
namespace Go.Proofs.YtbiacfkiakddiaaGreat
open Go.RowKit Go.Fl Ieee
def ordR (r:Nat × Nat):Prop:=leW r.1 r.2
def ordP (p:Pl):Prop:=ordR p.1 ∧ ordR p.2.1 ∧ ordR p.2.2

theorem leW_neg {a b:Nat} (h:leW a b):leW (negc .f32 b) (negc .f32 a):=by
 unfold negc leW
 rw [order_cn]
 show Ft.leD (FloatKind.f32.decode (Op.negFloat .f32 b)) (FloatKind.f32.decode (Op.negFloat .f32 a))
 rw [decode_neg,decode_neg]
 exact leD_opp (placed_read a) (placed_read b) h
theorem leW_gtk {a b:Nat}:leW a b ↔ gtk .f32 a b = false:=by
 unfold leW gtk
 rw [beq_eq_false_iff_ne]
theorem turnW (a b:Nat):ltk .f32 a b = gtk .f32 b a:=order_turn _ _
theorem leW_ltk {a b:Nat}:leW a b ↔ ltk .f32 b a = false:=by rw [leW_gtk,← turnW]
theorem ltk_leW {a b:Nat} (h:ltk .f32 a b = true):leW a b:=by
 intro h2
 unfold ltk at h
 rw [h2] at h
 cases h
theorem zw_neg0:Zw .f32 (negc .f32 0) 0:=.inr ⟨true,false,-149,by decide +kernel,by decide +kernel⟩
theorem leW_zero_neg {a:Nat} (h:gtk .f32 a 0 = false):leW 0 (negc .f32 a):=by
 have h2:=leW_neg (leW_gtk.2 h)
 unfold leW at *
 rw [← Zw.order zw_neg0 (Zw.refl _ _)]
 exact h2

theorem sizeR_ord {r:Nat × Nat} (h:ordR r):ordR (sizeR r):=by
 unfold sizeR
 split
 ·exact h
 ·rename_i h1
  split
  ·exact leW_neg h
  ·rename_i h2
   show leW 0 (greaterF (negc .f32 r.1) r.2)
   unfold greaterF
   split
   ·exact leW_ltk.2 (by simpa using h2)
   ·exact leW_zero_neg (by simpa using h1)
theorem timesR_ord (r:Nat × Nat) (v:Nat):ordR (timesR r v):=by
 unfold timesR
 split
 ·exact leW_refl _
 ·show leW (lesserF _ _) (greaterF _ _)
  generalize B .mul r.1 v = a
  generalize B .mul r.2 v = b
  unfold lesserF greaterF
  cases h1:ltk .f32 b a <;> cases h2:gtk .f32 b a
  ·exact leW_refl _
  ·exact leW_ltk.2 h1
  ·exact ltk_leW h1
  ·exact leW_refl _
theorem plusR_ord {r o:Nat × Nat} (h1:ordR r) (h2:ordR o):ordR (plusR r o):=add_mono h1 h2
theorem lessR_ord {r o:Nat × Nat} (h1:ordR r) (h2:ordR o):ordR (lessR r o):=sub_mono h1 h2
theorem downR_ord {r:Nat × Nat} (h:ordR r) (v:Nat):ordR (downR r v):=sub_mono h (leW_refl v)
theorem quoR_ord {r:Nat × Nat} {v:Nat} (hv:posW v) (h:ordR r):ordR (quoR v r):=quo_mono hv h

theorem four_le {s:Nat} (hs:posW s):leW 0 (B .mul 1082130432 s):=by
 obtain ⟨n,j,hn,h0⟩:=hs
 obtain ⟨m,e,hm⟩:∃ m e,FloatKind.f32.decode 1082130432 = .number false m e:=⟨8388608,-21,by decide +kernel⟩
 have bm:=read_single hm
 have bn:=read_single hn
 have e1:B .mul 1082130432 s = single.write (.number false (m * n) (e + j)):=by
  rw [show B .mul 1082130432 s = (((FloatKind.f32.decode 1082130432).product (FloatKind.f32.decode s)).map FloatKind.f32.encode).getD (nanw .f32) from rfl,hm,show FloatKind.f32.decode s = _ from hn]
  rfl
 have e2:(0:Nat) = single.write (.number false 0 0):=by decide +kernel
 rw [e1]
 have:=Ft.write_mono (d:=.number false 0 0) (e:=.number false (m * n) (e + j)) (by show (-6000:Int) ≤ 0;omega) (by show (-6000:Int) ≤ e + j;omega) rfl rfl ((Ft.le_num (by omega) (by omega)).2 (by
  unfold Ft.sval
  simp only [Bool.false_eq_true,if_false]
  rw [Ft.val_zero.2 rfl]
  omega))
 rw [← e2] at this
 exact this
theorem foldS_ord {r:Nat × Nat} {s:Nat} (hs:posW s) (h:ordR r):ordR (foldRS r s):=by
 unfold foldRS foldPick
 split
 ·exact sizeR_ord (downR_ord h _)
 ·split
  ·exact four_le hs
  ·show leW 0 infw
   unfold leW
   decide +kernel

/-- The same word,or both a zero. -/
def Zs (x y:Nat):Prop:=x = y ∨ ∃ s t,FloatKind.f32.decode x = .number s 0 (-149) ∧ FloatKind.f32.decode y = .number t 0 (-149)
theorem Zs.refl (x:Nat):Zs x x:=.inl rfl
theorem Zs.zw {x y:Nat} (h:Zs x y):Zw .f32 x y:=by
 rcases h with rfl | ⟨s,t,h1,h2⟩
 ·exact Zw.refl _ _
 ·exact .inr ⟨s,t,_,h1,h2⟩
theorem zo_zs {d d':Option Datum} (h:Zo d d'):Zs ((d.map FloatKind.f32.encode).getD (nanw .f32)) ((d'.map FloatKind.f32.encode).getD (nanw .f32)):=by
 cases d with
 | none =>
  cases d' with
  | none => exact .inl rfl
  | some e => cases h
 | some d =>
  cases d' with
  | none => cases h
  | some e =>
   have h':Zd d e:=h
   rcases h' with rfl | ⟨s,t,p,rfl,rfl⟩
   ·exact .inl rfl
   ·exact .inr ⟨s,t,zero_word .f32 s p,zero_word .f32 t p⟩
theorem Zs.trans {x y z:Nat} (h:Zs x y) (h':Zs y z):Zs x z:=by
 rcases h with rfl | ⟨s,t,h1,h2⟩
 ·exact h'
 ·rcases h' with rfl | ⟨s',t',h3,h4⟩
  ·exact .inr ⟨s,t,h1,h2⟩
  ·exact .inr ⟨s,t',h1,h4⟩
theorem zs_sub {x x' y y':Nat} (hx:Zw .f32 x x') (hy:Zw .f32 y y'):Zs (B .sub x y) (B .sub x' y') :=
 Zs.trans (zo_zs (sum_l hx _)) (zo_zs (sum_r (Zd.opp hy) _))
theorem zs_greater {x x' y y':Nat} (hx:Zs x x') (hy:Zs y y'):Zs (greaterF x y) (greaterF x' y'):=by
 unfold greaterF
 rw [Zw.gtk hy.zw hx.zw]
 split
 ·exact hy
 ·exact hx
theorem zero_gt {x:Nat} {s:Bool} (h:FloatKind.f32.decode x = .number s 0 (-149)) (y:Nat):gtk .f32 x y = gtk .f32 0 y ∧ ltk .f32 x y = ltk .f32 0 y ∧ gtk .f32 y x = gtk .f32 y 0:=by
 have hz:Zw .f32 x 0:=.inr ⟨s,false,-149,h,by decide +kernel⟩
 exact ⟨Zw.gtk hz (Zw.refl _ _),Zw.ltk hz (Zw.refl _ _),Zw.gtk (Zw.refl _ _) hz⟩
theorem gz_same {x x':Nat} (h:Zs x x'):greaterF 0 x = greaterF 0 x':=by
 rcases h with rfl | ⟨s,t,h1,h2⟩
 ·rfl
 ·unfold greaterF
  rw [(zero_gt h1 0).1,(zero_gt h2 0).1]
  have:gtk .f32 0 0 = false:=by decide +kernel
  rw [this];rfl
theorem low_same {x x':Nat} (h:Zs x x'):lesserF 0 x = lesserF 0 x':=by
 rcases h with rfl | ⟨s,t,h1,h2⟩
 ·rfl
 ·unfold lesserF
  rw [(zero_gt h1 0).2.1,(zero_gt h2 0).2.1]
  have:ltk .f32 0 0 = false:=by decide +kernel
  rw [this];rfl
theorem box_same:boxF = boxS:=by
 funext x y z u v t
 have h1:Zs (B .sub (sizeF x) u) (B .sub (sizeS x) u):=zs_sub (zw_size (Zw.refl _ _)) (Zw.refl _ _)
 have h2:Zs (B .sub (sizeF y) v) (B .sub (sizeS y) v):=zs_sub (zw_size (Zw.refl _ _)) (Zw.refl _ _)
 have h3:Zs (B .sub (sizeF z) t) (B .sub (sizeS z) t):=zs_sub (zw_size (Zw.refl _ _)) (Zw.refl _ _)
 unfold boxF boxS
 rw [gz_same h1,gz_same h2,gz_same h3,low_same (zs_greater (zs_greater h1 h2) h3)]

theorem eq_zw {x y:Nat} (h:eqk .f32 x y = true):Zw .f32 x y:=by
 unfold eqk at h
 have h':(single.read x).order (single.read y) = some .eq:=beq_iff_eq.1 h
 unfold Zw
 show Zd (single.read x) (single.read y)
 cases hx:single.read x with
 | nan s t => rw [hx] at h';cases h'
 | infinity s =>
  rw [hx] at h'
  cases hy:single.read y with
  | nan s t => rw [hy] at h';cases h'
  | infinity t =>
   rw [hy] at h'
   cases s <;> cases t <;> first | exact .inl rfl | exact absurd h' (by decide)
  | number t n j => rw [hy] at h';cases s <;> cases h'
 | number s m i =>
  rw [hx] at h'
  cases hy:single.read y with
  | nan s t => rw [hy] at h';cases h'
  | infinity t => rw [hy] at h';cases t <;> cases h'
  | number t n j =>
   rw [hy] at h'
   have bx:=read_single hx
   have by':=read_single hy
   rw [Ft.order_val s t m n (by omega) (by omega)] at h'
   injection h' with h'
   have he:=Ft.cmp_eq.1 h'
   by_cases hm:m = 0
   ·subst hm
    have hn:n = 0:=by
     unfold Ft.sval at he
     rw [Ft.val_zero.2 rfl] at he
     apply (Ft.val_zero (e:=j)).1
     cases s <;> cases t <;> simp at he <;> omega
    subst hn
    have p1:=zero_place (x:=x) hx
    have p2:=zero_place (x:=y) hy
    subst p1 p2
    exact .inr ⟨s,t,_,rfl,rfl⟩
   ·have hv:0 < Ft.val m i:=Nat.pos_of_ne_zero fun h0 => hm (Ft.val_zero.1 h0)
    have hst:s = t ∧ Ft.val m i = Ft.val n j:=by
     unfold Ft.sval at he
     cases s <;> cases t <;> simp at he <;> first | exact ⟨rfl,by omega⟩ | (exfalso;omega)
    obtain ⟨rfl,hvv⟩:=hst
    obtain ⟨r,_,_,hr,_⟩:=rtS (x:=x) hx
    obtain ⟨r',_,_,hr',_⟩:=rtS (x:=y) hy
    have:=Ft.nearest_val single s hm (by omega) (by omega) hvv
    rw [(hr s).1,(hr' s).1] at this
    left
    rw [← (hr s).2,← (hr' s).2,this]

theorem size_same {u p q:Nat} (h:Zs p q) (hu:leW u q):sizeR (u,p) = sizeR (u,q):=by
 rcases h with rfl | ⟨s,t,h1,h2⟩
 ·rfl
 ·have hg:gtk .f32 u 0 = false:=by rw [← (zero_gt h2 u).2.2];exact leW_gtk.1 hu
  have l0:ltk .f32 0 0 = false:=by decide +kernel
  have hn:gtk .f32 0 (negc .f32 u) = false:=leW_gtk.1 (leW_zero_neg hg)
  unfold sizeR greaterF
  simp only [hg,(zero_gt h1 0).2.1,(zero_gt h2 0).2.1,l0,(zero_gt h1 (negc .f32 u)).1,(zero_gt h2 (negc .f32 u)).1,hn,Bool.false_eq_true,if_false]

theorem fold_same {r:Nat × Nat} (s:Nat) (h:ordR r):foldRF r s = foldRS r s:=by
 unfold foldRF foldRS foldPick
 by_cases he:eqk .f32 (nearF (B .quo r.1 (B .mul 1073741824 s))) (nearF (B .quo r.2 (B .mul 1073741824 s))) = true
 ·rw [if_pos he,if_pos he]
  have hz:Zw .f32 (foldF r.2 s) (foldF r.1 s):=by
   have h0:=eq_zw he
   have h0':Zw .f32 (nearF (B .quo r.2 (B .mul 1073741824 s))) (nearF (B .quo r.1 (B .mul 1073741824 s))):=Zd.symm h0
   exact Zw.mul (Zw.refl _ _) h0'
  exact size_same (zs_sub (Zw.refl _ _) hz) (downR_ord h _)
 ·rw [if_neg he,if_neg he]

/-- A node's numbers are above 0 where they must be. -/
def NumPos (n:PN):Prop:=(n.kind = 10 ∨ n.kind = 11 ∨ n.kind = 14) → ∀ v ∈ n.nums.map (cn .f32),posW v

theorem onAx_same {b:Int} {f g:Nat × Nat → Nat × Nat} {p:Pl} (hp:ordP p) (h:∀ r,ordR r → f r = g r):onAx b f p = onAx b g p:=by
 unfold onAx
 rw [h _ hp.1,h _ hp.2.1,h _ hp.2.2]
theorem onAx_ord {b:Int} {f:Nat × Nat → Nat × Nat} {p:Pl} (hp:ordP p) (h:∀ r,ordR r → ordR (f r)):ordP (onAx b f p):=by
 unfold onAx
 split
 ·exact ⟨h _ hp.1,hp.2.1,hp.2.2⟩
 ·split
  ·exact ⟨hp.1,h _ hp.2.1,hp.2.2⟩
  ·exact ⟨hp.1,hp.2.1,h _ hp.2.2⟩
theorem tu1_ord (t:Nat) (i j:Nat × Nat):ordR (tuR1 t i j):=plusR_ord (timesR_ord _ _) (timesR_ord _ _)
theorem tu2_ord (t:Nat) (i j:Nat × Nat):ordR (tuR2 t i j):=lessR_ord (timesR_ord _ _) (timesR_ord _ _)
theorem turn_ord (b:Int) (t:Nat) {p:Pl} (hp:ordP p):ordP (turnP b t p):=by
 unfold turnP
 split
 ·exact ⟨hp.1,tu1_ord _ _ _,tu2_ord _ _ _⟩
 ·split
  ·exact ⟨tu2_ord _ _ _,hp.2.1,tu1_ord _ _ _⟩
  ·exact ⟨tu1_ord _ _ _,tu2_ord _ _ _,hp.2.2⟩

theorem place_same {n:PN} {p:Pl} (hp:ordP p):placeX foldRF n p = placeX foldRS n p:=by
 unfold placeX
 split <;> first | rfl | exact onAx_same hp (fun r hr => fold_same _ hr)
theorem place_ord {n:PN} (hn:NumPos n) {p:Pl} (hp:ordP p):ordP (placeX foldRS n p):=by
 unfold placeX
 split
 ·exact ⟨downR_ord hp.1 _,downR_ord hp.2.1 _,downR_ord hp.2.2 _⟩
 ·rename_i a hk hnums
  have hv:=hn (.inl hk) a (by rw [hnums];simp)
  exact ⟨quoR_ord hv hp.1,quoR_ord hv hp.2.1,quoR_ord hv hp.2.2⟩
 ·rename_i a b c hk hnums
  have hv:=hn (.inr (.inl hk))
  rw [hnums] at hv
  exact ⟨quoR_ord (hv a (by simp)) hp.1,quoR_ord (hv b (by simp)) hp.2.1,quoR_ord (hv c (by simp)) hp.2.2⟩
 ·exact turn_ord _ _ hp
 ·exact onAx_ord hp fun r hr => sizeR_ord hr
 ·rename_i s hk hnums
  have hv:=hn (.inr (.inr hk)) s (by rw [hnums];simp)
  exact onAx_ord hp fun r hr => foldS_ord hv hr
 ·exact hp

theorem updP_ord {P:Nat → Pl} {c:Nat} {v:Pl} (hP:∀ i,ordP (P i)) (hv:ordP v):∀ i,ordP (updP P c v i):=fun i => by
 unfold updP
 split
 ·exact hv
 ·exact hP i
theorem stepQ_same {n:PN} {i:Nat} {C:Nat → Pl} (hC:∀ i,ordP (C i)):stepQ foldRF n i C = stepQ foldRS n i C:=by
 unfold stepQ
 split
 ·rfl
 ·rw [place_same (hC i)]
 ·rfl
theorem stepQ_ord {n:PN} (hn:NumPos n) {i:Nat} {C:Nat → Pl} (hC:∀ i,ordP (C i)):∀ j,ordP (stepQ foldRS n i C j):=by
 unfold stepQ
 generalize (ruleF n.kind).2.1 = c
 rcases c with _ | _ | c
 ·exact hC
 ·exact updP_ord hC (place_ord hn (hC i))
 ·exact updP_ord (updP_ord hC (hC i)) (hC i)
theorem run_both {ns:List PN} (hns:∀ n ∈ ns,NumPos n) {p:Pl} (hp:ordP p):∀ d,runQ foldRF ns p d = runQ foldRS ns p d ∧ ∀ i,ordP (runQ foldRS ns p d i)
 | 0 => ⟨rfl,updP_ord (fun _ => ⟨leW_refl _,leW_refl _,leW_refl _⟩) hp⟩
 | d + 1 => by
  obtain ⟨h1,h2⟩:=run_both hns hp d
  unfold runQ
  cases hg:ns[ns.length - 1 - d]? with
  | none => exact ⟨h1,h2⟩
  | some n =>
   have hn:=hns n (List.mem_of_getElem? hg)
   simp only
   rw [h1]
   exact ⟨stepQ_same h2,stepQ_ord hn h2⟩
theorem ranges_same {ns:List PN} (hns:∀ n ∈ ns,NumPos n) {p:Pl} (hp:ordP p):rangesF ns p = rangesS ns p:=by
 unfold rangesF rangesS
 rw [(run_both hns hp ns.length).1,box_same]

/-- Right numbers are above 0 where they must be. -/
theorem fin_pos {x:Nat} (h:eqk .f32 (B .sub x x) 0 = true) (hp:lek .f32 x 0 = false):posW x:=by
 obtain ⟨s,m,e,hx⟩:=fin_num h
 have bx:=read_single hx
 have h0:FloatKind.f32.decode 0 = .number false 0 (-149):=by decide +kernel
 have ho:FloatKind.f32.format.order x 0 = some (compare (Ft.sval s m e) (Ft.sval false 0 (-149))):=by
  show (FloatKind.f32.decode x).order (FloatKind.f32.decode 0) = _
  rw [hx,h0,Ft.order_val _ _ _ _ (by omega) (by omega)]
 unfold lek at hp
 rw [ho] at hp
 have hgt:compare (Ft.sval s m e) (Ft.sval false 0 (-149)) = .gt:=by
  cases hc:compare (Ft.sval s m e) (Ft.sval false 0 (-149)) <;> rw [hc] at hp <;> first | rfl | (exfalso;revert hp;decide)
 have:=Ft.cmp_gt.1 hgt
 unfold Ft.sval at this
 rw [Ft.val_zero.2 (rfl:(0:Nat) = 0)] at this
 cases s
 ·refine ⟨m,e,hx,fun hm => ?_⟩
  subst hm
  rw [Ft.val_zero.2 rfl] at this
  simp at this
 ·simp at this
  omega
theorem valid_pos {ns:List PN} (h:validF ns = true):∀ n ∈ ns,NumPos n:=by
 simp only [validF,Bool.and_eq_true,decide_eq_true_eq] at h
 obtain ⟨hl,hr⟩:=h
 cases hc:runNodes ns 0 (List.replicate ns.length 0) with
 | none => rw [hc] at hr;cases hr
 | some r =>
  intro n hn hk v hv
  obtain ⟨i,hi,rfl⟩:=List.getElem_of_mem hn
  have h1:=(runNodes_some ns 0 _ r hc i hi).1
  simp only [nodeOk,numOk,Bool.and_eq_true,Bool.not_eq_true',List.any_eq_false] at h1
  obtain ⟨⟨⟨_,h2⟩,h3⟩,_⟩:=h1
  obtain ⟨x,hx,rfl⟩:=List.mem_map.1 hv
  have f1:=h2 x hx
  have f2:=h3 x hx
  have hs:(ruleF ns[i].kind).2.2.2 = 2:=by rcases hk with h | h | h <;> rw [h] <;> rfl
  rw [hs] at f2
  unfold finP at f1
  unfold signBad at f2
  refine fin_pos (by simpa using f1) ?_
  simpa using f2
end Go.Proofs.YtbiacfkiakddiaaGreat

namespace Go.Proofs.YtbiacfkiakddiaaGreat
open Go.RowKit Go.Fl
theorem way6f (p q r s t u:Bool):p = false ∨ (p = true ∧ q = false) ∨ (p = true ∧ q = true ∧ r = false) ∨ (p = true ∧ q = true ∧ r = true ∧ s = false) ∨ (p = true ∧ q = true ∧ r = true ∧ s = true ∧ t = false) ∨ (p = true ∧ q = true ∧ r = true ∧ s = true ∧ t = true ∧ u = false) ∨ (p = true ∧ q = true ∧ r = true ∧ s = true ∧ t = true ∧ u = true):=by
 cases p <;> cases q <;> cases r <;> cases s <;> cases t <;> cases u <;> simp

set_option maxRecDepth 100000 in
set_option maxHeartbeats 2000000 in
theorem s_fine_any {g p x0 x1 y0 y1 z0 z1:Nat} {w:World} (hs:SpaceIn g p x0 x1 y0 y1 z0 z1 w) :
  Calls Tryz.prog 125 #[.pointer (some ⟨g,p,none⟩)] w (fun e w' => e = .returned (.bool (fineP (cn6 ((x0,x1),(y0,y1),(z0,z1))))) ∧ Below w.heap.size w w'):=by
 have hN:Kept [(⟨g,p,none⟩,F1 x0),(⟨g,p + 1,none⟩,F1 x1),(⟨g,p + 2,none⟩,F1 y0),(⟨g,p + 3,none⟩,F1 y1),(⟨g,p + 4,none⟩,F1 z0),(⟨g,p + 5,none⟩,F1 z1)] [] w:=⟨hs,fun a ha => by cases ha⟩
 obtain ⟨U,hU⟩:∃ U,Hid (fineP (cn6 ((x0,x1),(y0,y1),(z0,z1))) = U):=⟨_,rfl⟩
 rw [hU.out]
 have hUo:(finP x0 && finP x1 && (finP y0 && finP y1) && (finP z0 && finP z1)) = U:=hU.out
 clear hU hs
 rcases way6f (finP x0) (finP x1) (finP y0) (finP y1) (finP z0) (finP z1) with h0 | ⟨h0,h1⟩ | ⟨h0,h1,h2⟩ | ⟨h0,h1,h2,h3⟩ | ⟨h0,h1,h2,h3,h4⟩ | ⟨h0,h1,h2,h3,h4,h5⟩ | ⟨h0,h1,h2,h3,h4,h5⟩
 all_goals
  simp only [*,Bool.and_true,Bool.and_false,Bool.false_and,Bool.true_and] at hUo
  subst hUo
  go_enter Tryz.func125,Tryz.ntmps125
  have W1b:=Below.refl w.heap.size w
  have hkept:=hN
  have hK:=hkept;simp only [Kept,ka,kb,kc,kd,ke,kf,kg] at hK
  go_wp2_with (go_at_call 149;refine (s_fin2_any _ _).mono ?_;rintro _ w2 ⟨rfl,hb1⟩;have W1b:=below_step W1b hb1;have hkept:=keepT hkept hb1 rfl;clear hK;have hK:=hkept;simp only [Kept,ka,kb,kc,kd,ke,kf,kg] at hK;simp only [*])
  go_ret
  exact ⟨rfl,W1b⟩

theorem range_info:(Tryz.prog.info? 118).map (fun i => (i.zero,i.size,i.bytes)) = some (some (.agg #[F1 0,F1 0]),2,8):=by kernel_rfl

/-- The cells of ranges. -/
def fr (rs:List (Nat × Nat)):List Value:=rs.flatMap fun r => [F1 r.1,F1 r.2]
theorem fr_app (rs:List (Nat × Nat)) (r:Nat × Nat):fr (rs ++ [r]) = fr rs ++ [F1 r.1,F1 r.2]:=by simp [fr]
theorem fr_len (rs:List (Nat × Nat)):(fr rs).length = rs.length * 2:=by
 induction rs with
 | nil => rfl
 | cons r rs ih =>
  have:fr (r :: rs) = F1 r.1 :: F1 r.2 :: fr rs:=rfl
  rw [this]
  simp only [List.length_cons,ih]
  omega
theorem fr_get:∀ (rs:List (Nat × Nat)) (i:Nat) (h:i < rs.length),(fr rs)[i * 2]? = some (F1 rs[i].1) ∧ (fr rs)[i * 2 + 1]? = some (F1 rs[i].2)
 | r :: rs,0,_ => ⟨rfl,rfl⟩
 | r :: rs,i + 1,h => by
  have e:fr (r :: rs) = F1 r.1 :: F1 r.2 :: fr rs:=rfl
  have:=fr_get rs i (by simpa using h)
  rw [e,show (i + 1) * 2 = i * 2 + 1 + 1 by omega]
  simpa using this

/-- One range is appended. -/
theorem wp_appR {ops:Array Oper} {rest:List Oper} {o:Oper} {a:Act} {Q:Exit → Act → World → Prop} {W:World} (base:Nat) (hgd:o.guard = none) (s x:Operand)
  (ho:o.op = .call { callee:=.builtin .append,args:=#[s,x],argTypes:=#[31,31] })
  (v:Value) (m:Nat) (rs:List (Nat × Nat)) (hs:a.eval s = v) (hown:W.ownsRow base 118 2 v m (fr rs)) (gn l u:Nat) (hx:a.eval x = .slice (some ⟨gn,0,none⟩) 1 1) (hcell:W.cell? ⟨gn,0,none⟩ = some (F1 l)) (hcell2:W.cell? ⟨gn,1,none⟩ = some (F1 u))
  (hm:m ≤ 1000) (hbase:base ≤ W.heap.size)
  (h:∀ v' w',w'.ownsRow base 118 2 v' (m + 1) (fr (rs ++ [(l,u)])) → W.grownBy w' v.ownBlock → wpList Tryz.prog ops Q rest (a.put o.dst v') w'):wpList Tryz.prog ops Q (o :: rest) a W:=by
 obtain ⟨i0,hi,hz0,hz1,hz2⟩:=info_parts range_info
 refine wpList_append_own _ hgd s x 31 ho base 118 i0 (.agg #[F1 0,F1 0]) 2 8 Tryz.underlying31 hi hz0 hz1 hz2 rfl (by decide) v m (fr rs) hs hown ⟨gn,0,none⟩ 1 1 [F1 l,F1 u] hx rfl ?_ ?_ (by unfold maxLen;omega) (by omega) hbase ?_
 ·intro j u' hu
  cases j with
  | zero => simp at hu;subst hu;exact hcell
  | succ j =>
   cases j with
   | zero => simp at hu;subst hu;exact hcell2
   | succ j => simp at hu
 ·intro u' hu
  simp at hu
  rcases hu with rfl | rfl <;> rfl
 ·intro v' w' h1 h2 _
  refine h v' w' ?_ h2
  rw [fr_app]
  exact h1
end Go.Proofs.YtbiacfkiakddiaaGreat
