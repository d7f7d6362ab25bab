/-
 Lemmas: Z4.
-/
import Derived.Test.YtbiacfkiakddiaaGreatXbi
set_option linter.unusedVariables false
set_option linter.unusedSimpArgs false
namespace Go.Proofs.YtbiacfkiakddiaaGreat
open Go.RowKit Go.Fl
theorem zo4 {n:PN} (h:inI n.kind 0 4=false):1≤zck n.a.toNat n:=by
 unfold zck;rw[h];simp only[Bool.false_eq_true,if_false,if_true];omega
theorem zjj {n:PN} (h:inI n.kind 5 8=true):1≤zck n.b.toNat n:=by
 unfold zck;rw[h];simp only[if_true];omega
theorem zwp {n:PN} (h:inI n.kind 0 4=false) (h2:inI n.kind 5 8=true) (e:n.a.toNat=n.b.toNat):2≤zck n.a.toNat n:=by
 unfold zck;rw[h,h2,e];simp

theorem zv6 {ns:List PN} (ht:Tree ns) {c j k:Nat} (hc:c<ns.length-1) (hj:j<ns.length) (hk:k<ns.length) (hjk:j ≠ k) (h1:1≤zck c ns[j]) (h2:1≤zck c ns[k]):False:=by
 have h:=ht.one c hc
 rcases Nat.lt_or_ge j k with hlt|hge
 ·have:=zjm (zck c) ns j k hlt hk
  omega
 ·have:=zjm (zck c) ns k j (by omega) hj
  omega
theorem zym {ns:List PN} (ht:Tree ns) {c k:Nat} (hc:c<ns.length-1) (hk:k<ns.length) (h1:2≤zck c ns[k]):False:=by
 have h:=ht.one c hc
 have:=zop (zck c) ns k hk
 omega

def zh9 (ns:List PN) (C:Nat→V) (j:Nat) (h:j<ns.length):Prop :=
 (inI ns[j].kind 0 4=false→C ns[j].a.toNat=q9 ns[j] (C j))∧(inI ns[j].kind 5 8=true→C ns[j].b.toNat=C j)

theorem kh {C:Nat→V} {c i:Nat} {v:V} (h:i ≠ c):upd C c v i=C i:=by unfold upd;rw[if_neg h]
theorem zec {C:Nat→V} {c:Nat} {v:V}:upd C c v c=v:=by unfold upd;rw[if_pos rfl]

theorem zql {ns:List PN} (ht:Tree ns) {k:Nat} (hk:k<ns.length):(inI ns[k].kind 0 4=false→ns[k].a.toNat<k)∧(inI ns[k].kind 5 8=true→ns[k].b.toNat<k):=by
 obtain⟨hokn,hca,hcb⟩:=ht.ok k hk
 obtain⟨k1,k2⟩:=zb4 hokn.kind
 refine⟨fun h=>?_,fun h=>?_⟩
 ·rw[k1]at h
  have:=hca (by simpa using h)
  omega
 ·rw[k2]at h
  have:=hcb (by simpa using h)
  omega

theorem zqk {ns:List PN} (ht:Tree ns) (p:V):∀ d,d≤ns.length→zcg ns p d (ns.length-1)=p∧∀ j (h:j<ns.length),ns.length-d≤j→zh9 ns (zcg ns p d) j h
 | 0,_=>⟨zec,fun j h hj=>by omega⟩
 | d+1,hd=>by
  obtain⟨ih1,ih2⟩:=zqk ht p d (by omega)
  have hk:ns.length-1-d<ns.length:=by have:=ht.len.1;omega
  rw[zcg,List.getElem?_eq_getElem hk]
  generalize hkk:ns.length-1-d=k at *
  obtain⟨la,lb⟩:=zql ht hk
  simp only
  generalize zcg ns p d=D at *
  have hfar:∀ (c:Nat) (hc:c<k) (hr:1≤zck c ns[k]) (D':Nat→V),(∀ i,i ≠ c→D' i=D i)→D' (ns.length-1)=p∧∀ j (h:j<ns.length),k<j→zh9 ns D' j h:=fun c hc hr D' hD=>by
   refine⟨by rw[hD _ (by omega)];exact ih1,fun j h hj=>?_⟩
   obtain⟨p1,p2⟩:=ih2 j h (by omega)
   refine⟨fun h1=>?_,fun h1=>?_⟩
   ·have:ns[j].a.toNat ≠ c:=fun e=>zv6 ht (by omega) h hk (by omega) (by rw[← e];exact zo4 h1) hr
    rw[hD _ this,hD j (by omega)];exact p1 h1
   ·have:ns[j].b.toNat ≠ c:=fun e=>zv6 ht (by omega) h hk (by omega) (by rw[← e];exact zjj h1) hr
    rw[hD _ this,hD j (by omega)];exact p2 h1
  have hsplit:∀ (D':Nat→V),(∀ j (h:j<ns.length),k<j→zh9 ns D' j h)→zh9 ns D' k hk→∀ j (h:j<ns.length),ns.length-(d+1)≤j→zh9 ns D' j h:=fun D' h1 h2 j h hj=>by
   by_cases e:j=k
   ·subst e;exact h2
   ·exact h1 j h (by omega)
  unfold zii
  cases hlf:inI ns[k].kind 0 4
  ·have hla:=la hlf
   simp only[Bool.false_eq_true,if_false]
   obtain⟨r1,f1⟩:=hfar ns[k].a.toNat hla (zo4 hlf) (upd D ns[k].a.toNat (q9 ns[k] (D k))) (fun i hi=>kh hi)
   cases htw:inI ns[k].kind 5 8
   ·simp only[Bool.false_eq_true,if_false]
    refine⟨r1,hsplit _ f1 ⟨fun _=>?_,fun h=>by rw[htw]at h;cases h⟩⟩
    rw[zec,kh (by omega)]
   ·have hlb:=lb htw
    simp only[if_true]
    have hab:ns[k].a.toNat ≠ ns[k].b.toNat:=fun e=>zym ht (by omega) hk (zwp hlf htw e)
    have hD1:upd D ns[k].a.toNat (q9 ns[k] (D k)) k=D k:=kh (by omega)
    rw[hD1]
    refine⟨by rw[kh (by omega)];exact r1,hsplit _ (fun j h hj=>?_) ⟨fun _=>?_,fun _=>?_⟩⟩
    ·obtain⟨p1,p2⟩:=f1 j h hj
     refine⟨fun h1=>?_,fun h1=>?_⟩
     ·have:ns[j].a.toNat ≠ ns[k].b.toNat:=fun e=>zv6 ht (c:=ns[k].b.toNat) (by omega) h hk (by omega) (by rw[← e];exact zo4 h1) (zjj htw)
      rw[kh this,kh (by omega:j ≠ _)];exact p1 h1
     ·have:ns[j].b.toNat ≠ ns[k].b.toNat:=fun e=>zv6 ht (c:=ns[k].b.toNat) (by omega) h hk (by omega) (by rw[← e];exact zjj h1) (zjj htw)
      rw[kh this,kh (by omega:j ≠ _)];exact p2 h1
    ·rw[kh hab,zec,kh (by omega),kh (by omega)]
    ·rw[zec,kh (by omega),kh (by omega)]
  ·simp only[if_true]
   refine⟨ih1,hsplit _ (fun j h hj=>ih2 j h (by omega)) ⟨fun h=>(by rw[hlf]at h;cases h),fun h=>?_⟩⟩
   exfalso
   simp only[inI,Bool.and_eq_true,decide_eq_true_eq]at hlf h
   omega

theorem zqq (ns:List PN) (C:Nat→V):∀ m,m≤ns.length→(zcb ns C m).length=m
 | 0,_=>rfl
 | m+1,h=>by
  rw[zcb,List.getElem?_eq_getElem (by omega)]
  simp[zqq ns C m (by omega)]

theorem zbx (ns:List PN) (C:Nat→V):∀ m (hm:m≤ns.length) i (hi:i<m),(zcb ns C m).getD i 0=zpm (ns[i]'(by omega)) (C i) (zcb ns C i)
 | m+1,hm,i,hi=>by
  rw[zcb,List.getElem?_eq_getElem (by omega)]
  simp only
  have hl:=zqq ns C m (by omega)
  rw[List.getD_eq_getElem?_getD]
  by_cases e:i=m
  ·subst e
   rw[List.getElem?_append_right (by omega),hl]
   simp
  ·rw[List.getElem?_append_left (by omega),← List.getD_eq_getElem?_getD]
   exact zbx ns C m (by omega) i (by omega)

theorem zs9 {ns:List PN} (ht:Tree ns) {C:Nat→V} (hC:∀ j (h:j<ns.length),zh9 ns C j h) :
  ∀ (f i:Nat) (hi:i<ns.length) (q:V),i<f→Zv q (C i)→Zw .f32 (qz ns f i q) ((zcb ns C ns.length).getD i 0):=by
 intro f
 induction f with
 | zero=>intro i _ _ h;omega
 | succ f ih =>
  intro i hi q hf hq
  obtain⟨hokn,hca,hcb⟩:=ht.ok i hi
  obtain⟨k1,k2⟩:=zb4 hokn.kind
  obtain⟨la,lb⟩:=zql ht hi
  obtain⟨p1,p2⟩:=hC i hi
  rw[zbx ns C ns.length (Nat.le_refl _) i hi,qz,List.getElem?_eq_getElem hi]
  simp only
  have hkc:=ur ns[i].kind
  unfold zpm
  rcases hkc with h|h|h
  ·rw[k1,h]
   exact zx2 hokn h hq
  ·have e1:inI ns[i].kind 0 4=false:=by rw[k1,h];rfl
   have e2:inI ns[i].kind 5 8=false:=by rw[k2,h];rfl
   rw[e1,e2,h]
   simp only[Bool.false_eq_true,if_false]
   have hla:=la e1
   have:=ih ns[i].a.toNat (by omega) (kn ns[i] q) (by omega) (by rw[p1 e1];exact zvy hokn h hq)
   rw[zbx ns C ns.length (Nat.le_refl _) _ (by omega)]at this
   rw[zbx ns C i (by omega) _ hla]
   exact zxk hokn (by rw[h];decide) this (Zw.refl _ _)
  ·have e1:inI ns[i].kind 0 4=false:=by rw[k1,h];rfl
   have e2:inI ns[i].kind 5 8=true:=by rw[k2,h];rfl
   rw[e1,e2,h]
   simp only[Bool.false_eq_true,if_false,if_true]
   have hla:=la e1
   have hlb:=lb e2
   have ha:=ih ns[i].a.toNat (by omega) q (by omega) (by rw[p1 e1,zpw hokn h];exact hq)
   have hb:=ih ns[i].b.toNat (by omega) q (by omega) (by rw[p2 e2];exact hq)
   rw[zbx ns C ns.length (Nat.le_refl _) _ (by omega)]at ha hb
   rw[zbx ns C i (by omega) _ hla,zbx ns C i (by omega) _ hlb]
   exact zxk hokn (by rw[h];decide) ha hb

theorem zmh {ns:List PN} (ht:Tree ns) (p:V):Zw .f32 (zh1 ns p) (atS ns p):=by
 obtain⟨h1,h2⟩:=zqk ht p ns.length (Nat.le_refl _)
 have hl:=ht.len.1
 refine zs9 ht (fun j h=>h2 j h (by omega)) ns.length (ns.length-1) (by omega) p (by omega) ?_
 rw[h1];exact Zv.refl _

end Go.Proofs.YtbiacfkiakddiaaGreat
