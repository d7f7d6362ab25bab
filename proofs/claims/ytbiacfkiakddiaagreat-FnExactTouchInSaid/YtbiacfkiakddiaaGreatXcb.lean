/-
 Lemmas: B1.
-/
import Derived.Test.YtbiacfkiakddiaaGreatXbt
set_option linter.unusedVariables false
set_option linter.unusedSimpArgs false
namespace Go.Proofs.YtbiacfkiakddiaaGreat
open Go.RowKit Go.Fl
abbrev Bx:=(Nat × Nat × Nat) × (Nat × Nat × Nat)
def cnB (a b c d e f:Nat):Bx:=((cn .f32 a,cn .f32 b,cn .f32 c),(cn .f32 d,cn .f32 e,cn .f32 f))
def co (v:Nat × Nat × Nat) (k:Nat):Nat:=if k=0 then v.1 else if k=1 then v.2.1 else v.2.2
def zde (v:Nat × Nat × Nat) (k x:Nat):Nat × Nat × Nat:=if k=0 then (x,v.2.1,v.2.2) else if k=1 then (v.1,x,v.2.2) else (v.1,v.2.1,x)
def je (b:Bx) (k:Nat):Nat:=B .sub (co b.2 k) (co b.1 k)
def axG (b:Bx):Nat→Nat
 | 0=>0
 | k+1=>if gtk .f32 (je b k) (je b (axG b k)) then k else axG b k
theorem zou (b:Bx):∀ k,axG b k≤k-1
 | 0=>Nat.le_refl _
 | k+1=>by
  have:=zou b k
  unfold axG
  split<;>omega
def ze8 (half:Nat→Nat) (b:Bx):Nat:=B .add (co b.1 (axG b 3)) (half (je b (axG b 3)))
def vf (half:Nat→Nat) (b:Bx):Bx × Bx:=((b.1,zde b.2 (axG b 3) (ze8 half b)),(zde b.1 (axG b 3) (ze8 half b),b.2))
def xn (b:Bx):Bool:=zaq b.1 b.2
def xk (x:Nat):Nat:=B .quo x 1073741824
def zxa (ok:Bool) (s:Bx × Bx) (w:World) (e:Ending) (w':World):Prop :=
 ∃ a b c d e1 f a' b' c' d' e' f',e=.returned (.tuple #[ug a b c d e1 f,ug a' b' c' d' e' f',.bool ok])∧(ok=true→cnB a b c d e1 f=s.1∧cnB a' b' c' d' e' f'=s.2)∧Below w.heap.size w w'

theorem zyo {w:World} {g k B:Nat} {a b c a' b' c':Value} {T T':TypeId} (hg:w.heap[g]? = some (.cells #[a,b,c] T (0,0))) (hk:w.heap[k]? = some (.cells #[a',b',c'] T' (0,0))) (hne:g ≠ k) (hB:B≤g∧B≤k) (x y z x' y' z':Value) :
  ((((((w.setCell ⟨g,0,none⟩ x).setCell ⟨g,1,none⟩ y).setCell ⟨g,2,none⟩ z).setCell ⟨k,0,none⟩ x').setCell ⟨k,1,none⟩ y').setCell ⟨k,2,none⟩ z').heap[g]? = some (.cells #[x,y,z] T (0,0)) ∧
  ((((((w.setCell ⟨g,0,none⟩ x).setCell ⟨g,1,none⟩ y).setCell ⟨g,2,none⟩ z).setCell ⟨k,0,none⟩ x').setCell ⟨k,1,none⟩ y').setCell ⟨k,2,none⟩ z').heap[k]? = some (.cells #[x',y',z'] T' (0,0)) ∧
  Below B w ((((((w.setCell ⟨g,0,none⟩ x).setCell ⟨g,1,none⟩ y).setCell ⟨g,2,none⟩ z).setCell ⟨k,0,none⟩ x').setCell ⟨k,1,none⟩ y').setCell ⟨k,2,none⟩ z'):=by
 obtain⟨h1,h2⟩:=zca hg x y z
 have hk':(((w.setCell ⟨g,0,none⟩ x).setCell ⟨g,1,none⟩ y).setCell ⟨g,2,none⟩ z).heap[k]? = some (.cells #[a',b',c'] T' (0,0)):=by
  simp only[World.setCell,Array.getElem?_modify,if_neg hne];exact hk
 generalize ((w.setCell ⟨g,0,none⟩ x).setCell ⟨g,1,none⟩ y).setCell ⟨g,2,none⟩ z=w1 at *
 obtain⟨h3,h4⟩:=zca hk' x' y' z'
 have h5:(((w1.setCell ⟨k,0,none⟩ x').setCell ⟨k,1,none⟩ y').setCell ⟨k,2,none⟩ z').heap[g]? = some (.cells #[x,y,z] T (0,0)):=by
  simp only[World.setCell,Array.getElem?_modify,if_neg (Ne.symm hne)];exact h1
 exact⟨h5,h3,(h2.mono hB.1).trans (h4.mono hB.2)⟩

theorem zib {w:World} {g:Nat} {a b c d e f:Value} {T:TypeId} (hg:w.heap[g]? = some (.cells #[a,b,c,d,e,f] T (0,0))) (x0 x1 x2 x3 x4 x5:Value):((((((w.setCell ⟨g,0,none⟩ x0).setCell ⟨g,1,none⟩ x1).setCell ⟨g,2,none⟩ x2).setCell ⟨g,3,none⟩ x3).setCell ⟨g,4,none⟩ x4).setCell ⟨g,5,none⟩ x5).heap[g]? = some (.cells #[x0,x1,x2,x3,x4,x5] T (0,0)):=by
 simp only[World.setCell,Array.getElem?_modify,if_true,hg,Option.map_some]
 rfl
theorem zxx {w:World} {g k:Nat} {o:Option Obj} (h:w.heap[k]? = o) (hne:g ≠ k) (x0 x1 x2 x3 x4 x5:Value):((((((w.setCell ⟨g,0,none⟩ x0).setCell ⟨g,1,none⟩ x1).setCell ⟨g,2,none⟩ x2).setCell ⟨g,3,none⟩ x3).setCell ⟨g,4,none⟩ x4).setCell ⟨g,5,none⟩ x5).heap[k]? = o:=by
 simp only[World.setCell,Array.getElem?_modify,if_neg hne];exact h
inductive PhiVo:FuncId→Array Value→Value→Prop
 | mk (a b c:Nat):PhiVo 227 #[V3 a b c] (V3 a b c)
abbrev BxO (A:Array Value):Obj:=.cells A 40 (0,0)
abbrev B0:Array Value:=#[F1 0,F1 0,F1 0,F1 0,F1 0,F1 0]
def zlo (X:Array Value) (b:Nat) (x y:Option Obj):Prop:=x=some (BxO B0)∧y=some (BxO X)
theorem vx {X:Array Value} (b:Nat) (x y z:Option Obj) (h:zlo X b x y) (k:zlo X b y z):zlo X b x z:=⟨h.1,k.2⟩
def SpS (X:Array Value) (d:Tmp) (g:Nat) (w:World):Prop:=d=10→w.heap[g]? = some (BxO X)
theorem ji {X:Array Value} (d:Tmp) (g:Nat) (w w':World) (h:SpS X d g w) (hr:Qh.RrT (zlo X) w w'):SpS X d g w':=fun hd=>by
 have h1:=h hd
 rcases hr.2 g (Array.getElem?_eq_some_iff.1 h1).1 with h2|h2
 ·rw[h2];exact h1
 ·exact h2.2
theorem zko {X:Array Value} {o:Oper} {a:Act} {w:World} {g ty:Nat} {x:Operand} (ho:o.op=.store ty (.tmp 10) x) (ha:a.tmps.getD 10 undef=.pointer (some ⟨g,0,none⟩)) (h:w.heap[g]? = some (BxO X)):Qh.FoS (SpS X) o a w:=by
 intro hn ty' d x' ho' g' hg' hd
 rw[hd,ha]at hg'
 injection hg' with e;injection e with e;injection e with e
 subst e
 exact h
def zwe (lo:Nat) (X:Array Value) (d:Tmp) (v:Value) (w:World):Prop:=d=10∨d=11→∀ p,v=.pointer p→∃ g,p=some ⟨g,0,none⟩∧lo≤g∧(w.heap[g]? = some (BxO B0)∨w.heap[g]? = some (BxO X))
theorem zdr (lo:Nat) (X:Array Value):Qh.Lasts (Qh.RrT (zlo X)) (zwe lo X):=by
 refine⟨fun d v w w' h hr hd p hp=>?_,fun d w hd p hp=>(by cases hp)⟩
 obtain⟨g,h1,h2,h3⟩:=h hd p hp
 refine⟨g,h1,h2,?_⟩
 have hg:g<w.heap.size:=by rcases h3 with h3|h3<;>exact (Array.getElem?_eq_some_iff.1 h3).1
 rcases hr.2 g hg with h4|h4
 ·rw[h4];exact h3
 ·exact .inr h4.2

theorem zad {bB:Bx} {i ax r0 r1:Nat} {t:Bool} (hb:(FloatKind.f32.format.order r0 r1==some .gt)=t) (hnx:axG bB (i+1)=if gtk .f32 (je bB i) (je bB ax) then i else ax) (h0:je bB i=cn .f32 r0) (h1:je bB ax=cn .f32 r1):axG bB (i+1)=if t then i else ax:=by
 rw[hnx,h0,h1]
 unfold gtk
 rw[um,hb]


set_option maxRecDepth 100000 in
set_option maxHeartbeats 8000000 in
theorem zrq (a b c d e f:Nat) (w:World) :
  Calls Tryz.prog 144 #[ug a b c d e f] w (zxa (xn (cnB a b c d e f) && (xn (vf xk (cnB a b c d e f)).1 && xn (vf xk (cnB a b c d e f)).2)) (vf xk (cnB a b c d e f)) w):=by
 obtain⟨ok,hOk⟩:∃ ok,Hid (ok=(xn (cnB a b c d e f) && (xn (vf xk (cnB a b c d e f)).1 && xn (vf xk (cnB a b c d e f)).2))):=⟨_,rfl⟩
 rw[← hOk.out]
 go_enter Tryz.func144,Tryz.ntmps144
 go_upto_region 1 with fail
 generalize hW:((w.alloc (.cells #[F1 a,F1 b,F1 c,F1 d,F1 e,F1 f] 40)).alloc (.cells #[F1 0,F1 0,F1 0,F1 0,F1 0,F1 0] 40)).alloc (.cells #[F1 0,F1 0,F1 0,F1 0,F1 0,F1 0] 40)=W1 at *
 have W1b:Below w.heap.size w W1:=by subst hW;exact vc ..
 have hkept:=xg false true true hW;simp only[zr,zq,zo,zv,Nat.reduceAdd]at hkept;clear hW
 have hK:=hkept;simp only[zc,ka,kb,zb,kfa,kga]at hK
 cases hbx:zaq (cn .f32 a,cn .f32 b,cn .f32 c) (cn .f32 d,cn .f32 e,cn .f32 f)
 ·have hno:Hid (ok=false):=by unfold Hid;rw[hOk.out,show xn (cnB a b c d e f)=false from hbx];rfl
  go_wp2_with (go_at_call 66;refine (jl _ _ _ _ _ _ _).mono ?_;rintro _ w3⟨rfl,hb1⟩;have W1b:=za W1b hb1;have hkept:=zn hkept hb1 rfl;replace hK:=hkept;simp only[zc,ka,kb,zb,kfa,kga]at hK;rw[hbx])
  exact bodyPost_ret (v:=.tuple #[ug 0 0 0 0 0 0,ug 0 0 0 0 0 0,.bool false]) (by simp[results,Tryz.results144,go_sem,hK,zf,zh];first|done|(rfl;done)|(repeat' constructor)) rfl ⟨0,0,0,0,0,0,0,0,0,0,0,0,by rw[hno.out],fun h=>(by rw[hno.out]at h;cases h),xr (xr W1b (by omega) ..) (by omega) ..⟩
 go_upto_region 3 with (go_at_call 66;refine (jl _ _ _ _ _ _ _).mono ?_;rintro _ w3⟨rfl,hb1⟩;have W1b:=za W1b hb1;have hkept:=zn hkept hb1 rfl;replace hK:=hkept;simp only[zc,ka,kb,zb,kfa,kga]at hK;rw[hbx])
 refine Qg.wp_gd 8 (by kernel_rfl) (by kernel_rfl) PhiCo (GdL [] w3 [] [(5,#[F1 0,F1 0,F1 0],194),(6,#[F1 0,F1 0,F1 0],194)] 1000 (fun _=>True)) [5,6] (qk ..) (ki (by intro d hd;simp at hd;rcases hd with rfl|rfl|rfl<;>rfl) rfl) ?_
 intro hC0
 repeat (first|(refine Qg.walk_step fun K hK=>?_;apply Qg.one_det hC0 (by intro d hd;cases hd;decide) rfl;(focus (intro w' hw';have HK:=keep hkept hw';simp only[zc,ka,kb,zb,kfa,kga]at HK;go_simp;first|done|rfl));(focus (intro w' hw' hs;exact jy (by decide) (by decide) (by decide)));go_simp;refine hK _ ?_;clear hK K)|(refine Qg.walk_step fun K hK=>?_;refine Qg.one_new (.cells #[F1 0,F1 0,F1 0] 194) hC0 rfl ?_ ?_ ?_ ?_;(focus (intro w' hw';go_simp;first|done|rfl));(focus (intro w' hw';exact hw'.alloc hw'.size _));(focus (intro w' hw';exact zc1 (by decide) (by simp) (by decide) hw'));intro _;go_simp;refine hK _ ?_;clear hK K)|(refine Qg.walk_step fun K hK=>?_;apply Qg.one_call _ _ hC0 (by intro d hd;cases hd;decide) rfl;(focus (intro w' hw';go_simp;first|done|exact⟨rfl,rfl⟩));(focus (apply Exists.intro;(constructor<;>exact (0:Nat))));(focus (intro w' hw' hs; go_at_call 133;refine (ya _ _ _ _).mono ?_;rintro _ wA⟨rfl,hb1⟩;exact⟨_,rfl,.mk _ _ _,jy (by decide) (by decide) (by decide),za hw' hb1,hb1⟩ ));intro v hv;cases hv;go_simp;refine hK _ ?_;clear hK K))
 rename_i gl gh
 refine Qg.walk_nil fun w4 hw4 hE=>?_
 obtain⟨g,ee,hgl,hcl⟩:=(hE.1 5).2.1 (5,#[F1 0,F1 0,F1 0],194) (by simp) rfl _ rfl
 injection ee with ee;injection ee with ee;subst ee
 obtain⟨g,ee,hgh,hch⟩:=(hE.1 6).2.1 (6,#[F1 0,F1 0,F1 0],194) (by simp) rfl _ rfl
 injection ee with ee;injection ee with ee;subst ee
 have n1:gl ≠ gh:=fun h=>hE.2.2 5 (by simp) 6 (by simp) (by decide) gl rfl (by rw[h];rfl)
 clear hE hC0
 obtain⟨hpl,hph,hbw⟩:=zyo (B:=w3.heap.size) hcl hch n1 ⟨hgl,hgh⟩ (F1 a) (F1 b) (F1 c) (F1 d) (F1 e) (F1 f)
 have hbw:=hw4.trans hbw
 obtain⟨pa0,pa1,pa2,fa0,fa1,fa2⟩:=vw hcl
 obtain⟨pb0,pb1,pb2,fb0,fb1,fb2⟩:=vw hch
 clear hcl hch
 go_upto_region 4 with fail
 clear pa0 pa1 pa2 fa0 fa1 fa2 pb0 pb1 pb2 fb0 fb1 fb2
 have hkept:=keep hkept hbw
 have hw3:w.heap.size+2<w3.heap.size:=zg (a:=⟨w.heap.size+1+1,0,none⟩) (by simp[hK])
 have W5b:=za W1b hbw
 clear hK hw4 hbw W1b hb1
 generalize ((((((w4.setCell ⟨gl,0,none⟩ (F1 a)).setCell ⟨gl,1,none⟩ (F1 b)).setCell ⟨gl,2,none⟩ (F1 c)).setCell ⟨gh,0,none⟩ (F1 d)).setCell ⟨gh,1,none⟩ (F1 e)).setCell ⟨gh,2,none⟩ (F1 f))=w5 at *
 have hws:w.heap.size+2<w5.heap.size:=zg (a:=⟨w.heap.size+1+1,0,none⟩) (by have hK:=hkept;simp only[zc,ka,kb,zb,kfa,kga]at hK;simp[hK])
 obtain⟨bB,hB⟩:∃ bB,Hid (bB=cnB a b c d e f):=⟨_,rfl⟩
 rw[← hB.out]at hOk
 have hw0:Hid (je bB 0=B .sub (cn .f32 d) (cn .f32 a)):=by unfold Hid;rw[hB.out];rfl
 have hw1:Hid (je bB 1=B .sub (cn .f32 e) (cn .f32 b)):=by unfold Hid;rw[hB.out];rfl
 have hw2:Hid (je bB 2=B .sub (cn .f32 f) (cn .f32 c)):=by unfold Hid;rw[hB.out];rfl
 have hgl5:w.heap.size+2<gl:=by have:=hw3;omega
 have hgh5:w.heap.size+2<gh:=by have:=hw3;omega
 clear hbw hgl hgh
 go_wp2_with fail
 go_loopw [7,23] (fun ax i wr=>∃ (k:Nat),k≤3∧i=.int .i64 (k:Int)∧ax=.int .i64 (axG bB k:Int)∧Below w5.heap.size w5 wr) (fun _ i _=>3-(intOf i).toNat)
 case atStart=>exact⟨0,by omega,rfl,rfl,zi _ _⟩
 case round =>
  obtain⟨k,hk,rfl,rfl,Wb⟩:=hrel
  have hplr:=(Wb.block gl (Array.getElem?_eq_some_iff.1 hpl).1).trans hpl
  have hphr:=(Wb.block gh (Array.getElem?_eq_some_iff.1 hph).1).trans hph
  by_cases hlt:k<3
  ·have hcase:(k=0∧axG bB k=0)∨(k=1∧axG bB k=0)∨(k=2∧axG bB k=0)∨(k=2∧axG bB k=1):=by
    have:=zou bB k
    omega
   have hnx:Hid (axG bB (k+1)=if gtk .f32 (je bB k) (je bB (axG bB k)) then k else axG bB k):=rfl
   obtain⟨pa0,pa1,pa2,-⟩:=vw hplr
   obtain⟨pb0,pb1,pb2,-⟩:=vw hphr
   have hkept:=ze (keep hkept Wb) (show zc [(⟨gl,0,none⟩,F1 a),(⟨gl,1,none⟩,F1 b),(⟨gl,2,none⟩,F1 c),(⟨gh,0,none⟩,F1 d),(⟨gh,1,none⟩,F1 e),(⟨gh,2,none⟩,F1 f)] [] wr by simp only[zc,ka,kb,zb,kfa,kga];simp[pa0,pa1,pa2,pb0,pb1,pb2])
   clear hpl hph hplr hphr pa0 pa1 pa2 pb0 pb1 pb2 hOk
   rcases hcase with⟨rfl,hax⟩|⟨rfl,hax⟩|⟨rfl,hax⟩|⟨rfl,hax⟩
   all_goals
    rw[hax]at hnx ⊢
    go_upto_region 7 with fail
    refine Qr.wp_below_all (by kernel_rfl) (by kernel_rfl) (fun _ _ _=>False) ?_
    repeat (first|(refine Qr.walk_plain rfl fun K hK=>?_;refine zk _ _ _ _ _ rfl _ _ _ rfl rfl rfl (fun r hr=>?_);go_simp;refine hK _ ?_;clear hK K)|(refine Qr.walk_plain rfl fun K hK=>?_;apply Qr.one_det;(focus (intro w' hw';have HK:=keep hkept hw';simp only[zc,ka,kb,zb,kfa,kga]at HK;go_simp;first|done|rfl));go_simp;refine hK _ ?_;clear hK K))
    refine Qr.walk_nil fun w7 hw7=>?_
    go_wp2_with fail
   all_goals rename_i r0 hr0 hb
   ·have hx:=zad (i:=0) (ax:=0) hb hnx.out (hw0.out.trans hr0.symm) (hw0.out.trans hr.symm)
    exact⟨⟨1,by omega,rfl,by rw[hx];rfl,za Wb hw7⟩,by simp[intOf]⟩
   ·have hx:=zad (i:=0) (ax:=0) hb hnx.out (hw0.out.trans hr0.symm) (hw0.out.trans hr.symm)
    exact⟨⟨1,by omega,rfl,by rw[hx];rfl,za Wb hw7⟩,by simp[intOf]⟩
   ·have hx:=zad (i:=1) (ax:=0) hb hnx.out (hw1.out.trans hr0.symm) (hw0.out.trans hr.symm)
    exact⟨⟨2,by omega,rfl,by rw[hx];rfl,za Wb hw7⟩,by simp[intOf]⟩
   ·have hx:=zad (i:=1) (ax:=0) hb hnx.out (hw1.out.trans hr0.symm) (hw0.out.trans hr.symm)
    exact⟨⟨2,by omega,rfl,by rw[hx];rfl,za Wb hw7⟩,by simp[intOf]⟩
   ·have hx:=zad (i:=2) (ax:=0) hb hnx.out (hw2.out.trans hr0.symm) (hw0.out.trans hr.symm)
    exact⟨⟨3,by omega,rfl,by rw[hx];rfl,za Wb hw7⟩,by simp[intOf]⟩
   ·have hx:=zad (i:=2) (ax:=0) hb hnx.out (hw2.out.trans hr0.symm) (hw0.out.trans hr.symm)
    exact⟨⟨3,by omega,rfl,by rw[hx];rfl,za Wb hw7⟩,by simp[intOf]⟩
   ·have hx:=zad (i:=2) (ax:=1) hb hnx.out (hw2.out.trans hr0.symm) (hw1.out.trans hr.symm)
    exact⟨⟨3,by omega,rfl,by rw[hx];rfl,za Wb hw7⟩,by simp[intOf]⟩
   ·have hx:=zad (i:=2) (ax:=1) hb hnx.out (hw2.out.trans hr0.symm) (hw1.out.trans hr.symm)
    exact⟨⟨3,by omega,rfl,by rw[hx];rfl,za Wb hw7⟩,by simp[intOf]⟩
  ·obtain rfl:k=3:=by omega
   have hcase:axG bB 3=0∨axG bB 3=1∨axG bB 3=2:=by
    have:=zou bB 3
    omega
   obtain⟨pa0,pa1,pa2,fa0,fa1,fa2⟩:=vw hplr
   obtain⟨pb0,pb1,pb2,fb0,fb1,fb2⟩:=vw hphr
   have hkept:=ze (keep hkept Wb) (show zc [(⟨gl,0,none⟩,F1 a),(⟨gl,1,none⟩,F1 b),(⟨gl,2,none⟩,F1 c),(⟨gh,0,none⟩,F1 d),(⟨gh,1,none⟩,F1 e),(⟨gh,2,none⟩,F1 f)] [⟨gl,0,none⟩,⟨gl,1,none⟩,⟨gl,2,none⟩,⟨gh,0,none⟩,⟨gh,1,none⟩,⟨gh,2,none⟩] wr by simp only[zc,ka,kb,zb,kfa,kga];simp[pa0,pa1,pa2,pb0,pb1,pb2,fa0,fa1,fa2,fb0,fb1,fb2])
   clear hpl hph pa0 pa1 pa2 pb0 pb1 pb2 fa0 fa1 fa2 fb0 fb1 fb2
   have hsp:Hid (vf xk bB=((bB.1,zde bB.2 (axG bB 3) (ze8 xk bB)),(zde bB.1 (axG bB 3) (ze8 xk bB),bB.2))):=rfl
   have hmid:Hid (ze8 xk bB=B .add (co bB.1 (axG bB 3)) (B .quo (je bB (axG bB 3)) 1073741824)):=rfl
   have W6b:=za W5b Wb
   clear W5b Wb
   rcases hcase with hax|hax|hax
   ·rw[hax]at hsp hmid ⊢
    go_upto_region 10 with fail
    refine Qr.wp_below_all (by kernel_rfl) (by kernel_rfl) (fun _ _ _=>False) ?_
    repeat (first|(refine Qr.walk_plain rfl fun K hK=>?_;refine zk _ _ _ _ _ rfl _ _ _ rfl rfl rfl (fun r hr=>?_);go_simp;refine hK _ ?_;clear hK K)|(refine Qr.walk_plain rfl fun K hK=>?_;apply Qr.one_det;(focus (intro w' hw';have HK:=keep hkept hw';simp only[zc,ka,kb,zb,kfa,kga]at HK;go_simp;first|done|rfl));go_simp;refine hK _ ?_;clear hK K))
    rename_i r1 hr1 r2 hr2
    refine Qr.walk_nil fun w7 hw7=>?_
    have hm:cn .f32 r=ze8 xk bB:=by
     rw[hmid.out,hB.out,hr,hr2,hr1,show cn .f32 1073741824=1073741824 from by decide +kernel]
     rfl
    clear hr hr2 hr1
    have hkept:=keep hkept hw7
    have W7b:=za W6b hw7
    have hglw:w.heap.size+2<gl:=by omega
    have hghw:w.heap.size+2<gh:=by omega
    have hgs:=hw7.size
    have hgl7:gl<w7.heap.size:=Nat.lt_of_lt_of_le (Array.getElem?_eq_some_iff.1 hplr).1 hgs
    have hgh7:gh<w7.heap.size:=Nat.lt_of_lt_of_le (Array.getElem?_eq_some_iff.1 hphr).1 hgs
    have hnl:=Ne.symm n1
    clear W6b hw7
    have hK:=hkept;simp only[zc,ka,kb,zb,kfa,kga]at hK
    go_upto_region 12 with fail
    have hkept8:zc [(⟨w.heap.size,0,none⟩,F1 a),(⟨w.heap.size,1,none⟩,F1 b),(⟨w.heap.size,2,none⟩,F1 c),(⟨w.heap.size,3,none⟩,F1 d),(⟨w.heap.size,4,none⟩,F1 e),(⟨w.heap.size,5,none⟩,F1 f),(⟨w.heap.size+1,0,none⟩,F1 0),(⟨w.heap.size+1,1,none⟩,F1 0),(⟨w.heap.size+1,2,none⟩,F1 0),(⟨w.heap.size+1,3,none⟩,F1 0),(⟨w.heap.size+1,4,none⟩,F1 0),(⟨w.heap.size+1,5,none⟩,F1 0),(⟨w.heap.size+1+1,0,none⟩,F1 0),(⟨w.heap.size+1+1,1,none⟩,F1 0),(⟨w.heap.size+1+1,2,none⟩,F1 0),(⟨w.heap.size+1+1,3,none⟩,F1 0),(⟨w.heap.size+1+1,4,none⟩,F1 0),(⟨w.heap.size+1+1,5,none⟩,F1 0),(⟨gl,0,none⟩,F1 r),(⟨gl,1,none⟩,F1 b),(⟨gl,2,none⟩,F1 c),(⟨gh,0,none⟩,F1 r),(⟨gh,1,none⟩,F1 e),(⟨gh,2,none⟩,F1 f)] [⟨w.heap.size+1,0,none⟩,⟨w.heap.size+1,1,none⟩,⟨w.heap.size+1,2,none⟩,⟨w.heap.size+1,3,none⟩,⟨w.heap.size+1,4,none⟩,⟨w.heap.size+1,5,none⟩,⟨w.heap.size+1+1,0,none⟩,⟨w.heap.size+1+1,1,none⟩,⟨w.heap.size+1+1,2,none⟩,⟨w.heap.size+1+1,3,none⟩,⟨w.heap.size+1+1,4,none⟩,⟨w.heap.size+1+1,5,none⟩] ((w7.setCell ⟨gl,0,none⟩ (F1 r)).setCell ⟨gh,0,none⟩ (F1 r)):=by
     simp only[zc,ka,kb,zb,kfa,kga];simp[hK,zf,zh,yk,n1,hnl,show w.heap.size ≠ gl by omega,show w.heap.size ≠ gh by omega,show gl ≠ w.heap.size by omega,show gh ≠ w.heap.size by omega]
    have W8b:Below w.heap.size w ((w7.setCell ⟨gl,0,none⟩ (F1 r)).setCell ⟨gh,0,none⟩ (F1 r)):=(W7b.setCell (p:=⟨gl,_,none⟩) (by show w.heap.size≤gl;omega) _).setCell (p:=⟨gh,_,none⟩) (by show w.heap.size≤gh;omega) _
    have hw8:w.heap.size+2<(((w7.setCell ⟨gl,0,none⟩ (F1 r)).setCell ⟨gh,0,none⟩ (F1 r))).heap.size:=by simp only[World.setCell,Array.size_modify];omega
    clear hK hkept W7b
    have hkept:=hkept8
    clear hkept8 hplr hphr hgl7 hgh7
    generalize ((w7.setCell ⟨gl,0,none⟩ (F1 r)).setCell ⟨gh,0,none⟩ (F1 r))=w8 at *
    refine Qh.wp_stT 13 (by kernel_rfl) (by kernel_rfl) (by kernel_rfl) (fun w'=>Below w8.heap.size w8 w') (zi _ _).drew PhiVo (zwe w8.heap.size #[F1 a,F1 b,F1 c,F1 r,F1 e,F1 f]) [10,11] (Qh.RrT (zlo #[F1 a,F1 b,F1 c,F1 r,F1 e,F1 f])) (Qh.FoS (SpS #[F1 a,F1 b,F1 c,F1 r,F1 e,F1 f])) (Qh.aux_mk vx ji) (zdr _ _) ⟨fun d hd p hp=>(by rcases hd with rfl|rfl<;>cases hp),fun d hd q hv=>(by simp at hd;rcases hd with rfl|rfl<;>cases hv),fun d hd e he hde q hv=>(by simp at hd;rcases hd with rfl|rfl<;>cases hv)⟩ ?_
    have hC0:(fun w'=>Below w8.heap.size w8 w') w8:=zi _ _
    repeat (first|(refine Qh.walk_step fun K hK=>?_;apply Qh.one_det (Qh.aux_mk vx ji) hC0 (by intro d hd;cases hd;decide) rfl rfl;(focus (intro w' hw';have HK:=keep hkept hw';simp only[zc,ka,kb,zb,kfa,kga]at HK;go_simp;first|done|rfl));(focus (intro w' hw' hs hd;exact absurd hd (by decide)));go_simp;refine hK _ ?_;clear hK K)|(refine Qh.walk_step fun K hK=>?_;refine Qh.one_new (Qh.aux_mk vx ji) (.cells B0 40) hC0 rfl rfl ?_ ?_ ?_ ?_;(focus (intro w' hw';go_simp;first|done|rfl));(focus (intro w' hw';exact⟨hw'.alloc hw'.size _,Qh.rrt_below (zt ..)⟩));(focus (intro w' hw' _ p hp;injection hp with hp;exact⟨_,hp.symm,hw'.size,.inl (ub w' _)⟩));intro _;go_simp;refine hK _ ?_;clear hK K)|(refine Qh.walk_step fun K hK=>?_;apply Qh.one_call (Qh.aux_mk vx ji) _ _ hC0 (by intro d hd;cases hd;decide) rfl rfl;(focus (intro w' hw';go_simp;first|done|exact⟨rfl,rfl⟩));(focus (apply Exists.intro;(constructor<;>exact (0:Nat))));(focus (intro w' hw' hs; go_at_call 227;refine (zx _ _ _ _).mono ?_;rintro _ wA⟨rfl,hb1⟩;exact⟨_,rfl,.mk _ _ _,(fun hd=>absurd hd (by decide)),za hw' hb1,Qh.rrt_below hb1⟩));intro v hv;cases hv;go_simp;refine hK _ ?_;clear hK K))
    rename_i g1 g2
    refine Qh.walk_step fun K hK=>?_
    refine Qh.one_store rfl (fun w' hw' hs=>?_) (hK _ ?_)
    ·clear hK K
     obtain⟨g,e,hg,hz⟩:=hs 10 (of_decide_eq_true (by kernel_rfl)) (.inl rfl) _ rfl
     injection e with e;injection e with e;subst e
     obtain⟨z0,z1,z2,z3,z4,z5,hz6⟩:∃ z0 z1 z2 z3 z4 z5:Value,w'.heap[g1]? = some (BxO #[z0,z1,z2,z3,z4,z5]):=by
      rcases hz with h|h<;>exact⟨_,_,_,_,_,_,h⟩
     obtain⟨⟨p0,p1,p2,p3,p4,p5⟩,f0,f1,f2,f3,f4,f5⟩:=qd hz6
     have h6:=zib hz6 (F1 a) (F1 b) (F1 c) (F1 r) (F1 e) (F1 f)
     refine⟨(((((w'.setCell ⟨g1,0,none⟩ (F1 a)).setCell ⟨g1,1,none⟩ (F1 b)).setCell ⟨g1,2,none⟩ (F1 c)).setCell ⟨g1,3,none⟩ (F1 r)).setCell ⟨g1,4,none⟩ (F1 e)).setCell ⟨g1,5,none⟩ (F1 f),(by go_simp;first|done|rfl),xr hw' hg ..,⟨by simp[World.setCell],fun b hb=>?_⟩,?_⟩
     ·by_cases e:g1=b
      ·subst e
       rcases hz with h|h
       ·exact .inr ⟨h,h6⟩
       ·left;rw[h6,h]
      ·left;simp only[World.setCell,Array.getElem?_modify,if_neg e]
     ·exact zko rfl rfl h6
    refine Qh.walk_nil fun w9 hw9 hE hF=>?_
    have hX:w9.heap[g1]? = some (BxO #[F1 a,F1 b,F1 c,F1 r,F1 e,F1 f]):=(hF _ (List.mem_of_getElem? (i:=12) rfl) rfl _ _ _ rfl _ rfl) rfl
    obtain⟨q,e,hg1,-⟩:=hE.1 10 (.inl rfl) _ rfl
    injection e with e;injection e with e;subst e
    obtain⟨q,e,hg2,hz⟩:=hE.1 11 (.inr rfl) _ rfl
    injection e with e;injection e with e;subst e
    have n2:g1 ≠ g2:=fun h=>hE.2.2 10 (by simp) 11 (by simp) (by decide) g1 rfl (by rw[h];rfl)
    obtain⟨z0,z1,z2,z3,z4,z5,hz6⟩:∃ z0 z1 z2 z3 z4 z5:Value,w9.heap[g2]? = some (BxO #[z0,z1,z2,z3,z4,z5]):=by
     rcases hz with h|h<;>exact⟨_,_,_,_,_,_,h⟩
    clear hE hF hC0 hz
    obtain⟨⟨p0,p1,p2,p3,p4,p5⟩,f0,f1,f2,f3,f4,f5⟩:=qd hz6
    go_upto_region 13 with fail
    have h7:=zib hz6 (F1 r) (F1 b) (F1 c) (F1 d) (F1 e) (F1 f)
    have h8:=zxx hX (Ne.symm n2) (F1 r) (F1 b) (F1 c) (F1 d) (F1 e) (F1 f)
    have hbw:Below w8.heap.size w8 ((((((w9.setCell ⟨g2,0,none⟩ (F1 r)).setCell ⟨g2,1,none⟩ (F1 b)).setCell ⟨g2,2,none⟩ (F1 c)).setCell ⟨g2,3,none⟩ (F1 d)).setCell ⟨g2,4,none⟩ (F1 e)).setCell ⟨g2,5,none⟩ (F1 f)):=xr hw9 hg2 ..
    clear p0 p1 p2 p3 p4 p5 f0 f1 f2 f3 f4 f5 hz6 hX hw9
    generalize (((((w9.setCell ⟨g2,0,none⟩ (F1 r)).setCell ⟨g2,1,none⟩ (F1 b)).setCell ⟨g2,2,none⟩ (F1 c)).setCell ⟨g2,3,none⟩ (F1 d)).setCell ⟨g2,4,none⟩ (F1 e)).setCell ⟨g2,5,none⟩ (F1 f)=w10 at *
    obtain⟨⟨p0,p1,p2,p3,p4,p5⟩,-⟩:=qd h8
    obtain⟨⟨q0,q1,q2,q3,q4,q5⟩,-⟩:=qd h7
    have hkept:=ze (keep hkept hbw) (show zc [(⟨g1,0,none⟩,F1 a),(⟨g1,1,none⟩,F1 b),(⟨g1,2,none⟩,F1 c),(⟨g1,3,none⟩,F1 r),(⟨g1,4,none⟩,F1 e),(⟨g1,5,none⟩,F1 f),(⟨g2,0,none⟩,F1 r),(⟨g2,1,none⟩,F1 b),(⟨g2,2,none⟩,F1 c),(⟨g2,3,none⟩,F1 d),(⟨g2,4,none⟩,F1 e),(⟨g2,5,none⟩,F1 f)] [] w10 by simp only[zc,ka,kb,zb,kfa,kga];simp[p0,p1,p2,p3,p4,p5,q0,q1,q2,q3,q4,q5])
    have W1b:=za W8b hbw
    clear p0 p1 p2 p3 p4 p5 q0 q1 q2 q3 q4 q5 h7 h8 hbw W8b
    have e1:cnB a b c r e f=(vf xk bB).1:=by rw[hsp.out,← hm,hB.out];rfl
    have e2:cnB r b c d e f=(vf xk bB).2:=by rw[hsp.out,← hm,hB.out];rfl
    rw[← e1,← e2,show xn bB=true from by rw[hB.out];exact hbx]at hOk
    have hK:=hkept;simp only[zc,ka,kb,zb,kfa,kga]at hK
    cases hv1:zaq (cn .f32 a,cn .f32 b,cn .f32 c) (cn .f32 r,cn .f32 e,cn .f32 f)
    ·have hno:Hid (ok=false):=by unfold Hid;rw[hOk.out,show xn (cnB a b c r e f)=false from hv1];rfl
     go_wp2_with (go_at_call 66;refine (jl _ _ _ _ _ _ _).mono ?_;rintro _ w3⟨rfl,hb1⟩;have W1b:=za W1b hb1;have hkept:=zn hkept hb1 rfl;replace hK:=hkept;simp only[zc,ka,kb,zb,kfa,kga]at hK;first|rw[hv1]|rw[hv2])
     exact bodyPost_ret (v:=.tuple #[ug 0 0 0 0 0 0,ug 0 0 0 0 0 0,.bool false]) (by simp[results,Tryz.results144,go_sem,hK,zf,zh];first|done|(rfl;done)|(repeat' constructor)) rfl ⟨0,0,0,0,0,0,0,0,0,0,0,0,by rw[hno.out],fun h=>(by rw[hno.out]at h;cases h),xr (xr W1b (by omega) ..) (by omega) ..⟩
    cases hv2:zaq (cn .f32 r,cn .f32 b,cn .f32 c) (cn .f32 d,cn .f32 e,cn .f32 f)
    ·have hno:Hid (ok=false):=by unfold Hid;rw[hOk.out,show xn (cnB r b c d e f)=false from hv2,Bool.and_false,Bool.and_false]
     go_wp2_with (go_at_call 66;refine (jl _ _ _ _ _ _ _).mono ?_;rintro _ w3⟨rfl,hb1⟩;have W1b:=za W1b hb1;have hkept:=zn hkept hb1 rfl;replace hK:=hkept;simp only[zc,ka,kb,zb,kfa,kga]at hK;first|rw[hv1]|rw[hv2])
     exact bodyPost_ret (v:=.tuple #[ug 0 0 0 0 0 0,ug 0 0 0 0 0 0,.bool false]) (by simp[results,Tryz.results144,go_sem,hK,zf,zh];first|done|(rfl;done)|(repeat' constructor)) rfl ⟨0,0,0,0,0,0,0,0,0,0,0,0,by rw[hno.out],fun h=>(by rw[hno.out]at h;cases h),xr (xr W1b (by omega) ..) (by omega) ..⟩
    have hyes:Hid (ok=true):=by unfold Hid;rw[hOk.out,show xn (cnB a b c r e f)=true from hv1,show xn (cnB r b c d e f)=true from hv2];rfl
    go_upto_region 15 with (go_at_call 66;refine (jl _ _ _ _ _ _ _).mono ?_;rintro _ w3⟨rfl,hb1⟩;have W1b:=za W1b hb1;have hkept:=zn hkept hb1 rfl;replace hK:=hkept;simp only[zc,ka,kb,zb,kfa,kga]at hK;first|rw[hv1]|rw[hv2])
    have m1:g1 ≠ w.heap.size+1:=by omega
    have m2:g1 ≠ w.heap.size+1+1:=by omega
    have m3:g2 ≠ w.heap.size+1:=by omega
    have m4:g2 ≠ w.heap.size+1+1:=by omega
    have m1':=Ne.symm m1
    have m2':=Ne.symm m2
    have m3':=Ne.symm m3
    have m4':=Ne.symm m4
    go_region
    rename_i aK
    refine aK _ _ ?_
    rw[hB.out]at e1 e2
    go_upto_region 99 with fail
    exact bodyPost_ret (v:=.tuple #[ug a b c r e f,ug r b c d e f,.bool true]) (by simp[results,Tryz.results144,go_sem,hK,zf,zh];first|done|(rfl;done)|(repeat' constructor)) rfl ⟨a,b,c,r,e,f,r,b,c,d,e,f,by rw[hyes.out],fun _=>⟨e1,e2⟩,(xr (xr W1b (by omega) ..) (by omega) ..).drew⟩
   ·rw[hax]at hsp hmid ⊢
    go_upto_region 10 with fail
    refine Qr.wp_below_all (by kernel_rfl) (by kernel_rfl) (fun _ _ _=>False) ?_
    repeat (first|(refine Qr.walk_plain rfl fun K hK=>?_;refine zk _ _ _ _ _ rfl _ _ _ rfl rfl rfl (fun r hr=>?_);go_simp;refine hK _ ?_;clear hK K)|(refine Qr.walk_plain rfl fun K hK=>?_;apply Qr.one_det;(focus (intro w' hw';have HK:=keep hkept hw';simp only[zc,ka,kb,zb,kfa,kga]at HK;go_simp;first|done|rfl));go_simp;refine hK _ ?_;clear hK K))
    rename_i r1 hr1 r2 hr2
    refine Qr.walk_nil fun w7 hw7=>?_
    have hm:cn .f32 r=ze8 xk bB:=by
     rw[hmid.out,hB.out,hr,hr2,hr1,show cn .f32 1073741824=1073741824 from by decide +kernel]
     rfl
    clear hr hr2 hr1
    have hkept:=keep hkept hw7
    have W7b:=za W6b hw7
    have hglw:w.heap.size+2<gl:=by omega
    have hghw:w.heap.size+2<gh:=by omega
    have hgs:=hw7.size
    have hgl7:gl<w7.heap.size:=Nat.lt_of_lt_of_le (Array.getElem?_eq_some_iff.1 hplr).1 hgs
    have hgh7:gh<w7.heap.size:=Nat.lt_of_lt_of_le (Array.getElem?_eq_some_iff.1 hphr).1 hgs
    have hnl:=Ne.symm n1
    clear W6b hw7
    have hK:=hkept;simp only[zc,ka,kb,zb,kfa,kga]at hK
    go_upto_region 12 with fail
    have hkept8:zc [(⟨w.heap.size,0,none⟩,F1 a),(⟨w.heap.size,1,none⟩,F1 b),(⟨w.heap.size,2,none⟩,F1 c),(⟨w.heap.size,3,none⟩,F1 d),(⟨w.heap.size,4,none⟩,F1 e),(⟨w.heap.size,5,none⟩,F1 f),(⟨w.heap.size+1,0,none⟩,F1 0),(⟨w.heap.size+1,1,none⟩,F1 0),(⟨w.heap.size+1,2,none⟩,F1 0),(⟨w.heap.size+1,3,none⟩,F1 0),(⟨w.heap.size+1,4,none⟩,F1 0),(⟨w.heap.size+1,5,none⟩,F1 0),(⟨w.heap.size+1+1,0,none⟩,F1 0),(⟨w.heap.size+1+1,1,none⟩,F1 0),(⟨w.heap.size+1+1,2,none⟩,F1 0),(⟨w.heap.size+1+1,3,none⟩,F1 0),(⟨w.heap.size+1+1,4,none⟩,F1 0),(⟨w.heap.size+1+1,5,none⟩,F1 0),(⟨gl,0,none⟩,F1 a),(⟨gl,1,none⟩,F1 r),(⟨gl,2,none⟩,F1 c),(⟨gh,0,none⟩,F1 d),(⟨gh,1,none⟩,F1 r),(⟨gh,2,none⟩,F1 f)] [⟨w.heap.size+1,0,none⟩,⟨w.heap.size+1,1,none⟩,⟨w.heap.size+1,2,none⟩,⟨w.heap.size+1,3,none⟩,⟨w.heap.size+1,4,none⟩,⟨w.heap.size+1,5,none⟩,⟨w.heap.size+1+1,0,none⟩,⟨w.heap.size+1+1,1,none⟩,⟨w.heap.size+1+1,2,none⟩,⟨w.heap.size+1+1,3,none⟩,⟨w.heap.size+1+1,4,none⟩,⟨w.heap.size+1+1,5,none⟩] ((w7.setCell ⟨gl,1,none⟩ (F1 r)).setCell ⟨gh,1,none⟩ (F1 r)):=by
     simp only[zc,ka,kb,zb,kfa,kga];simp[hK,zf,zh,yk,n1,hnl,show w.heap.size ≠ gl by omega,show w.heap.size ≠ gh by omega,show gl ≠ w.heap.size by omega,show gh ≠ w.heap.size by omega]
    have W8b:Below w.heap.size w ((w7.setCell ⟨gl,1,none⟩ (F1 r)).setCell ⟨gh,1,none⟩ (F1 r)):=(W7b.setCell (p:=⟨gl,_,none⟩) (by show w.heap.size≤gl;omega) _).setCell (p:=⟨gh,_,none⟩) (by show w.heap.size≤gh;omega) _
    have hw8:w.heap.size+2<(((w7.setCell ⟨gl,1,none⟩ (F1 r)).setCell ⟨gh,1,none⟩ (F1 r))).heap.size:=by simp only[World.setCell,Array.size_modify];omega
    clear hK hkept W7b
    have hkept:=hkept8
    clear hkept8 hplr hphr hgl7 hgh7
    generalize ((w7.setCell ⟨gl,1,none⟩ (F1 r)).setCell ⟨gh,1,none⟩ (F1 r))=w8 at *
    refine Qh.wp_stT 13 (by kernel_rfl) (by kernel_rfl) (by kernel_rfl) (fun w'=>Below w8.heap.size w8 w') (zi _ _).drew PhiVo (zwe w8.heap.size #[F1 a,F1 b,F1 c,F1 d,F1 r,F1 f]) [10,11] (Qh.RrT (zlo #[F1 a,F1 b,F1 c,F1 d,F1 r,F1 f])) (Qh.FoS (SpS #[F1 a,F1 b,F1 c,F1 d,F1 r,F1 f])) (Qh.aux_mk vx ji) (zdr _ _) ⟨fun d hd p hp=>(by rcases hd with rfl|rfl<;>cases hp),fun d hd q hv=>(by simp at hd;rcases hd with rfl|rfl<;>cases hv),fun d hd e he hde q hv=>(by simp at hd;rcases hd with rfl|rfl<;>cases hv)⟩ ?_
    have hC0:(fun w'=>Below w8.heap.size w8 w') w8:=zi _ _
    repeat (first|(refine Qh.walk_step fun K hK=>?_;apply Qh.one_det (Qh.aux_mk vx ji) hC0 (by intro d hd;cases hd;decide) rfl rfl;(focus (intro w' hw';have HK:=keep hkept hw';simp only[zc,ka,kb,zb,kfa,kga]at HK;go_simp;first|done|rfl));(focus (intro w' hw' hs hd;exact absurd hd (by decide)));go_simp;refine hK _ ?_;clear hK K)|(refine Qh.walk_step fun K hK=>?_;refine Qh.one_new (Qh.aux_mk vx ji) (.cells B0 40) hC0 rfl rfl ?_ ?_ ?_ ?_;(focus (intro w' hw';go_simp;first|done|rfl));(focus (intro w' hw';exact⟨hw'.alloc hw'.size _,Qh.rrt_below (zt ..)⟩));(focus (intro w' hw' _ p hp;injection hp with hp;exact⟨_,hp.symm,hw'.size,.inl (ub w' _)⟩));intro _;go_simp;refine hK _ ?_;clear hK K)|(refine Qh.walk_step fun K hK=>?_;apply Qh.one_call (Qh.aux_mk vx ji) _ _ hC0 (by intro d hd;cases hd;decide) rfl rfl;(focus (intro w' hw';go_simp;first|done|exact⟨rfl,rfl⟩));(focus (apply Exists.intro;(constructor<;>exact (0:Nat))));(focus (intro w' hw' hs; go_at_call 227;refine (zx _ _ _ _).mono ?_;rintro _ wA⟨rfl,hb1⟩;exact⟨_,rfl,.mk _ _ _,(fun hd=>absurd hd (by decide)),za hw' hb1,Qh.rrt_below hb1⟩));intro v hv;cases hv;go_simp;refine hK _ ?_;clear hK K))
    rename_i g1 g2
    refine Qh.walk_step fun K hK=>?_
    refine Qh.one_store rfl (fun w' hw' hs=>?_) (hK _ ?_)
    ·clear hK K
     obtain⟨g,e,hg,hz⟩:=hs 10 (of_decide_eq_true (by kernel_rfl)) (.inl rfl) _ rfl
     injection e with e;injection e with e;subst e
     obtain⟨z0,z1,z2,z3,z4,z5,hz6⟩:∃ z0 z1 z2 z3 z4 z5:Value,w'.heap[g1]? = some (BxO #[z0,z1,z2,z3,z4,z5]):=by
      rcases hz with h|h<;>exact⟨_,_,_,_,_,_,h⟩
     obtain⟨⟨p0,p1,p2,p3,p4,p5⟩,f0,f1,f2,f3,f4,f5⟩:=qd hz6
     have h6:=zib hz6 (F1 a) (F1 b) (F1 c) (F1 d) (F1 r) (F1 f)
     refine⟨(((((w'.setCell ⟨g1,0,none⟩ (F1 a)).setCell ⟨g1,1,none⟩ (F1 b)).setCell ⟨g1,2,none⟩ (F1 c)).setCell ⟨g1,3,none⟩ (F1 d)).setCell ⟨g1,4,none⟩ (F1 r)).setCell ⟨g1,5,none⟩ (F1 f),(by go_simp;first|done|rfl),xr hw' hg ..,⟨by simp[World.setCell],fun b hb=>?_⟩,?_⟩
     ·by_cases e:g1=b
      ·subst e
       rcases hz with h|h
       ·exact .inr ⟨h,h6⟩
       ·left;rw[h6,h]
      ·left;simp only[World.setCell,Array.getElem?_modify,if_neg e]
     ·exact zko rfl rfl h6
    refine Qh.walk_nil fun w9 hw9 hE hF=>?_
    have hX:w9.heap[g1]? = some (BxO #[F1 a,F1 b,F1 c,F1 d,F1 r,F1 f]):=(hF _ (List.mem_of_getElem? (i:=12) rfl) rfl _ _ _ rfl _ rfl) rfl
    obtain⟨q,e,hg1,-⟩:=hE.1 10 (.inl rfl) _ rfl
    injection e with e;injection e with e;subst e
    obtain⟨q,e,hg2,hz⟩:=hE.1 11 (.inr rfl) _ rfl
    injection e with e;injection e with e;subst e
    have n2:g1 ≠ g2:=fun h=>hE.2.2 10 (by simp) 11 (by simp) (by decide) g1 rfl (by rw[h];rfl)
    obtain⟨z0,z1,z2,z3,z4,z5,hz6⟩:∃ z0 z1 z2 z3 z4 z5:Value,w9.heap[g2]? = some (BxO #[z0,z1,z2,z3,z4,z5]):=by
     rcases hz with h|h<;>exact⟨_,_,_,_,_,_,h⟩
    clear hE hF hC0 hz
    obtain⟨⟨p0,p1,p2,p3,p4,p5⟩,f0,f1,f2,f3,f4,f5⟩:=qd hz6
    go_upto_region 13 with fail
    have h7:=zib hz6 (F1 a) (F1 r) (F1 c) (F1 d) (F1 e) (F1 f)
    have h8:=zxx hX (Ne.symm n2) (F1 a) (F1 r) (F1 c) (F1 d) (F1 e) (F1 f)
    have hbw:Below w8.heap.size w8 ((((((w9.setCell ⟨g2,0,none⟩ (F1 a)).setCell ⟨g2,1,none⟩ (F1 r)).setCell ⟨g2,2,none⟩ (F1 c)).setCell ⟨g2,3,none⟩ (F1 d)).setCell ⟨g2,4,none⟩ (F1 e)).setCell ⟨g2,5,none⟩ (F1 f)):=xr hw9 hg2 ..
    clear p0 p1 p2 p3 p4 p5 f0 f1 f2 f3 f4 f5 hz6 hX hw9
    generalize (((((w9.setCell ⟨g2,0,none⟩ (F1 a)).setCell ⟨g2,1,none⟩ (F1 r)).setCell ⟨g2,2,none⟩ (F1 c)).setCell ⟨g2,3,none⟩ (F1 d)).setCell ⟨g2,4,none⟩ (F1 e)).setCell ⟨g2,5,none⟩ (F1 f)=w10 at *
    obtain⟨⟨p0,p1,p2,p3,p4,p5⟩,-⟩:=qd h8
    obtain⟨⟨q0,q1,q2,q3,q4,q5⟩,-⟩:=qd h7
    have hkept:=ze (keep hkept hbw) (show zc [(⟨g1,0,none⟩,F1 a),(⟨g1,1,none⟩,F1 b),(⟨g1,2,none⟩,F1 c),(⟨g1,3,none⟩,F1 d),(⟨g1,4,none⟩,F1 r),(⟨g1,5,none⟩,F1 f),(⟨g2,0,none⟩,F1 a),(⟨g2,1,none⟩,F1 r),(⟨g2,2,none⟩,F1 c),(⟨g2,3,none⟩,F1 d),(⟨g2,4,none⟩,F1 e),(⟨g2,5,none⟩,F1 f)] [] w10 by simp only[zc,ka,kb,zb,kfa,kga];simp[p0,p1,p2,p3,p4,p5,q0,q1,q2,q3,q4,q5])
    have W1b:=za W8b hbw
    clear p0 p1 p2 p3 p4 p5 q0 q1 q2 q3 q4 q5 h7 h8 hbw W8b
    have e1:cnB a b c d r f=(vf xk bB).1:=by rw[hsp.out,← hm,hB.out];rfl
    have e2:cnB a r c d e f=(vf xk bB).2:=by rw[hsp.out,← hm,hB.out];rfl
    rw[← e1,← e2,show xn bB=true from by rw[hB.out];exact hbx]at hOk
    have hK:=hkept;simp only[zc,ka,kb,zb,kfa,kga]at hK
    cases hv1:zaq (cn .f32 a,cn .f32 b,cn .f32 c) (cn .f32 d,cn .f32 r,cn .f32 f)
    ·have hno:Hid (ok=false):=by unfold Hid;rw[hOk.out,show xn (cnB a b c d r f)=false from hv1];rfl
     go_wp2_with (go_at_call 66;refine (jl _ _ _ _ _ _ _).mono ?_;rintro _ w3⟨rfl,hb1⟩;have W1b:=za W1b hb1;have hkept:=zn hkept hb1 rfl;replace hK:=hkept;simp only[zc,ka,kb,zb,kfa,kga]at hK;first|rw[hv1]|rw[hv2])
     exact bodyPost_ret (v:=.tuple #[ug 0 0 0 0 0 0,ug 0 0 0 0 0 0,.bool false]) (by simp[results,Tryz.results144,go_sem,hK,zf,zh];first|done|(rfl;done)|(repeat' constructor)) rfl ⟨0,0,0,0,0,0,0,0,0,0,0,0,by rw[hno.out],fun h=>(by rw[hno.out]at h;cases h),xr (xr W1b (by omega) ..) (by omega) ..⟩
    cases hv2:zaq (cn .f32 a,cn .f32 r,cn .f32 c) (cn .f32 d,cn .f32 e,cn .f32 f)
    ·have hno:Hid (ok=false):=by unfold Hid;rw[hOk.out,show xn (cnB a r c d e f)=false from hv2,Bool.and_false,Bool.and_false]
     go_wp2_with (go_at_call 66;refine (jl _ _ _ _ _ _ _).mono ?_;rintro _ w3⟨rfl,hb1⟩;have W1b:=za W1b hb1;have hkept:=zn hkept hb1 rfl;replace hK:=hkept;simp only[zc,ka,kb,zb,kfa,kga]at hK;first|rw[hv1]|rw[hv2])
     exact bodyPost_ret (v:=.tuple #[ug 0 0 0 0 0 0,ug 0 0 0 0 0 0,.bool false]) (by simp[results,Tryz.results144,go_sem,hK,zf,zh];first|done|(rfl;done)|(repeat' constructor)) rfl ⟨0,0,0,0,0,0,0,0,0,0,0,0,by rw[hno.out],fun h=>(by rw[hno.out]at h;cases h),xr (xr W1b (by omega) ..) (by omega) ..⟩
    have hyes:Hid (ok=true):=by unfold Hid;rw[hOk.out,show xn (cnB a b c d r f)=true from hv1,show xn (cnB a r c d e f)=true from hv2];rfl
    go_upto_region 15 with (go_at_call 66;refine (jl _ _ _ _ _ _ _).mono ?_;rintro _ w3⟨rfl,hb1⟩;have W1b:=za W1b hb1;have hkept:=zn hkept hb1 rfl;replace hK:=hkept;simp only[zc,ka,kb,zb,kfa,kga]at hK;first|rw[hv1]|rw[hv2])
    have m1:g1 ≠ w.heap.size+1:=by omega
    have m2:g1 ≠ w.heap.size+1+1:=by omega
    have m3:g2 ≠ w.heap.size+1:=by omega
    have m4:g2 ≠ w.heap.size+1+1:=by omega
    have m1':=Ne.symm m1
    have m2':=Ne.symm m2
    have m3':=Ne.symm m3
    have m4':=Ne.symm m4
    go_region
    rename_i aK
    refine aK _ _ ?_
    rw[hB.out]at e1 e2
    go_upto_region 99 with fail
    exact bodyPost_ret (v:=.tuple #[ug a b c d r f,ug a r c d e f,.bool true]) (by simp[results,Tryz.results144,go_sem,hK,zf,zh];first|done|(rfl;done)|(repeat' constructor)) rfl ⟨a,b,c,d,r,f,a,r,c,d,e,f,by rw[hyes.out],fun _=>⟨e1,e2⟩,(xr (xr W1b (by omega) ..) (by omega) ..).drew⟩
   ·rw[hax]at hsp hmid ⊢
    go_upto_region 10 with fail
    refine Qr.wp_below_all (by kernel_rfl) (by kernel_rfl) (fun _ _ _=>False) ?_
    repeat (first|(refine Qr.walk_plain rfl fun K hK=>?_;refine zk _ _ _ _ _ rfl _ _ _ rfl rfl rfl (fun r hr=>?_);go_simp;refine hK _ ?_;clear hK K)|(refine Qr.walk_plain rfl fun K hK=>?_;apply Qr.one_det;(focus (intro w' hw';have HK:=keep hkept hw';simp only[zc,ka,kb,zb,kfa,kga]at HK;go_simp;first|done|rfl));go_simp;refine hK _ ?_;clear hK K))
    rename_i r1 hr1 r2 hr2
    refine Qr.walk_nil fun w7 hw7=>?_
    have hm:cn .f32 r=ze8 xk bB:=by
     rw[hmid.out,hB.out,hr,hr2,hr1,show cn .f32 1073741824=1073741824 from by decide +kernel]
     rfl
    clear hr hr2 hr1
    have hkept:=keep hkept hw7
    have W7b:=za W6b hw7
    have hglw:w.heap.size+2<gl:=by omega
    have hghw:w.heap.size+2<gh:=by omega
    have hgs:=hw7.size
    have hgl7:gl<w7.heap.size:=Nat.lt_of_lt_of_le (Array.getElem?_eq_some_iff.1 hplr).1 hgs
    have hgh7:gh<w7.heap.size:=Nat.lt_of_lt_of_le (Array.getElem?_eq_some_iff.1 hphr).1 hgs
    have hnl:=Ne.symm n1
    clear W6b hw7
    have hK:=hkept;simp only[zc,ka,kb,zb,kfa,kga]at hK
    go_upto_region 12 with fail
    have hkept8:zc [(⟨w.heap.size,0,none⟩,F1 a),(⟨w.heap.size,1,none⟩,F1 b),(⟨w.heap.size,2,none⟩,F1 c),(⟨w.heap.size,3,none⟩,F1 d),(⟨w.heap.size,4,none⟩,F1 e),(⟨w.heap.size,5,none⟩,F1 f),(⟨w.heap.size+1,0,none⟩,F1 0),(⟨w.heap.size+1,1,none⟩,F1 0),(⟨w.heap.size+1,2,none⟩,F1 0),(⟨w.heap.size+1,3,none⟩,F1 0),(⟨w.heap.size+1,4,none⟩,F1 0),(⟨w.heap.size+1,5,none⟩,F1 0),(⟨w.heap.size+1+1,0,none⟩,F1 0),(⟨w.heap.size+1+1,1,none⟩,F1 0),(⟨w.heap.size+1+1,2,none⟩,F1 0),(⟨w.heap.size+1+1,3,none⟩,F1 0),(⟨w.heap.size+1+1,4,none⟩,F1 0),(⟨w.heap.size+1+1,5,none⟩,F1 0),(⟨gl,0,none⟩,F1 a),(⟨gl,1,none⟩,F1 b),(⟨gl,2,none⟩,F1 r),(⟨gh,0,none⟩,F1 d),(⟨gh,1,none⟩,F1 e),(⟨gh,2,none⟩,F1 r)] [⟨w.heap.size+1,0,none⟩,⟨w.heap.size+1,1,none⟩,⟨w.heap.size+1,2,none⟩,⟨w.heap.size+1,3,none⟩,⟨w.heap.size+1,4,none⟩,⟨w.heap.size+1,5,none⟩,⟨w.heap.size+1+1,0,none⟩,⟨w.heap.size+1+1,1,none⟩,⟨w.heap.size+1+1,2,none⟩,⟨w.heap.size+1+1,3,none⟩,⟨w.heap.size+1+1,4,none⟩,⟨w.heap.size+1+1,5,none⟩] ((w7.setCell ⟨gl,2,none⟩ (F1 r)).setCell ⟨gh,2,none⟩ (F1 r)):=by
     simp only[zc,ka,kb,zb,kfa,kga];simp[hK,zf,zh,yk,n1,hnl,show w.heap.size ≠ gl by omega,show w.heap.size ≠ gh by omega,show gl ≠ w.heap.size by omega,show gh ≠ w.heap.size by omega]
    have W8b:Below w.heap.size w ((w7.setCell ⟨gl,2,none⟩ (F1 r)).setCell ⟨gh,2,none⟩ (F1 r)):=(W7b.setCell (p:=⟨gl,_,none⟩) (by show w.heap.size≤gl;omega) _).setCell (p:=⟨gh,_,none⟩) (by show w.heap.size≤gh;omega) _
    have hw8:w.heap.size+2<(((w7.setCell ⟨gl,2,none⟩ (F1 r)).setCell ⟨gh,2,none⟩ (F1 r))).heap.size:=by simp only[World.setCell,Array.size_modify];omega
    clear hK hkept W7b
    have hkept:=hkept8
    clear hkept8 hplr hphr hgl7 hgh7
    generalize ((w7.setCell ⟨gl,2,none⟩ (F1 r)).setCell ⟨gh,2,none⟩ (F1 r))=w8 at *
    refine Qh.wp_stT 13 (by kernel_rfl) (by kernel_rfl) (by kernel_rfl) (fun w'=>Below w8.heap.size w8 w') (zi _ _).drew PhiVo (zwe w8.heap.size #[F1 a,F1 b,F1 c,F1 d,F1 e,F1 r]) [10,11] (Qh.RrT (zlo #[F1 a,F1 b,F1 c,F1 d,F1 e,F1 r])) (Qh.FoS (SpS #[F1 a,F1 b,F1 c,F1 d,F1 e,F1 r])) (Qh.aux_mk vx ji) (zdr _ _) ⟨fun d hd p hp=>(by rcases hd with rfl|rfl<;>cases hp),fun d hd q hv=>(by simp at hd;rcases hd with rfl|rfl<;>cases hv),fun d hd e he hde q hv=>(by simp at hd;rcases hd with rfl|rfl<;>cases hv)⟩ ?_
    have hC0:(fun w'=>Below w8.heap.size w8 w') w8:=zi _ _
    repeat (first|(refine Qh.walk_step fun K hK=>?_;apply Qh.one_det (Qh.aux_mk vx ji) hC0 (by intro d hd;cases hd;decide) rfl rfl;(focus (intro w' hw';have HK:=keep hkept hw';simp only[zc,ka,kb,zb,kfa,kga]at HK;go_simp;first|done|rfl));(focus (intro w' hw' hs hd;exact absurd hd (by decide)));go_simp;refine hK _ ?_;clear hK K)|(refine Qh.walk_step fun K hK=>?_;refine Qh.one_new (Qh.aux_mk vx ji) (.cells B0 40) hC0 rfl rfl ?_ ?_ ?_ ?_;(focus (intro w' hw';go_simp;first|done|rfl));(focus (intro w' hw';exact⟨hw'.alloc hw'.size _,Qh.rrt_below (zt ..)⟩));(focus (intro w' hw' _ p hp;injection hp with hp;exact⟨_,hp.symm,hw'.size,.inl (ub w' _)⟩));intro _;go_simp;refine hK _ ?_;clear hK K)|(refine Qh.walk_step fun K hK=>?_;apply Qh.one_call (Qh.aux_mk vx ji) _ _ hC0 (by intro d hd;cases hd;decide) rfl rfl;(focus (intro w' hw';go_simp;first|done|exact⟨rfl,rfl⟩));(focus (apply Exists.intro;(constructor<;>exact (0:Nat))));(focus (intro w' hw' hs; go_at_call 227;refine (zx _ _ _ _).mono ?_;rintro _ wA⟨rfl,hb1⟩;exact⟨_,rfl,.mk _ _ _,(fun hd=>absurd hd (by decide)),za hw' hb1,Qh.rrt_below hb1⟩));intro v hv;cases hv;go_simp;refine hK _ ?_;clear hK K))
    rename_i g1 g2
    refine Qh.walk_step fun K hK=>?_
    refine Qh.one_store rfl (fun w' hw' hs=>?_) (hK _ ?_)
    ·clear hK K
     obtain⟨g,e,hg,hz⟩:=hs 10 (of_decide_eq_true (by kernel_rfl)) (.inl rfl) _ rfl
     injection e with e;injection e with e;subst e
     obtain⟨z0,z1,z2,z3,z4,z5,hz6⟩:∃ z0 z1 z2 z3 z4 z5:Value,w'.heap[g1]? = some (BxO #[z0,z1,z2,z3,z4,z5]):=by
      rcases hz with h|h<;>exact⟨_,_,_,_,_,_,h⟩
     obtain⟨⟨p0,p1,p2,p3,p4,p5⟩,f0,f1,f2,f3,f4,f5⟩:=qd hz6
     have h6:=zib hz6 (F1 a) (F1 b) (F1 c) (F1 d) (F1 e) (F1 r)
     refine⟨(((((w'.setCell ⟨g1,0,none⟩ (F1 a)).setCell ⟨g1,1,none⟩ (F1 b)).setCell ⟨g1,2,none⟩ (F1 c)).setCell ⟨g1,3,none⟩ (F1 d)).setCell ⟨g1,4,none⟩ (F1 e)).setCell ⟨g1,5,none⟩ (F1 r),(by go_simp;first|done|rfl),xr hw' hg ..,⟨by simp[World.setCell],fun b hb=>?_⟩,?_⟩
     ·by_cases e:g1=b
      ·subst e
       rcases hz with h|h
       ·exact .inr ⟨h,h6⟩
       ·left;rw[h6,h]
      ·left;simp only[World.setCell,Array.getElem?_modify,if_neg e]
     ·exact zko rfl rfl h6
    refine Qh.walk_nil fun w9 hw9 hE hF=>?_
    have hX:w9.heap[g1]? = some (BxO #[F1 a,F1 b,F1 c,F1 d,F1 e,F1 r]):=(hF _ (List.mem_of_getElem? (i:=12) rfl) rfl _ _ _ rfl _ rfl) rfl
    obtain⟨q,e,hg1,-⟩:=hE.1 10 (.inl rfl) _ rfl
    injection e with e;injection e with e;subst e
    obtain⟨q,e,hg2,hz⟩:=hE.1 11 (.inr rfl) _ rfl
    injection e with e;injection e with e;subst e
    have n2:g1 ≠ g2:=fun h=>hE.2.2 10 (by simp) 11 (by simp) (by decide) g1 rfl (by rw[h];rfl)
    obtain⟨z0,z1,z2,z3,z4,z5,hz6⟩:∃ z0 z1 z2 z3 z4 z5:Value,w9.heap[g2]? = some (BxO #[z0,z1,z2,z3,z4,z5]):=by
     rcases hz with h|h<;>exact⟨_,_,_,_,_,_,h⟩
    clear hE hF hC0 hz
    obtain⟨⟨p0,p1,p2,p3,p4,p5⟩,f0,f1,f2,f3,f4,f5⟩:=qd hz6
    go_upto_region 13 with fail
    have h7:=zib hz6 (F1 a) (F1 b) (F1 r) (F1 d) (F1 e) (F1 f)
    have h8:=zxx hX (Ne.symm n2) (F1 a) (F1 b) (F1 r) (F1 d) (F1 e) (F1 f)
    have hbw:Below w8.heap.size w8 ((((((w9.setCell ⟨g2,0,none⟩ (F1 a)).setCell ⟨g2,1,none⟩ (F1 b)).setCell ⟨g2,2,none⟩ (F1 r)).setCell ⟨g2,3,none⟩ (F1 d)).setCell ⟨g2,4,none⟩ (F1 e)).setCell ⟨g2,5,none⟩ (F1 f)):=xr hw9 hg2 ..
    clear p0 p1 p2 p3 p4 p5 f0 f1 f2 f3 f4 f5 hz6 hX hw9
    generalize (((((w9.setCell ⟨g2,0,none⟩ (F1 a)).setCell ⟨g2,1,none⟩ (F1 b)).setCell ⟨g2,2,none⟩ (F1 r)).setCell ⟨g2,3,none⟩ (F1 d)).setCell ⟨g2,4,none⟩ (F1 e)).setCell ⟨g2,5,none⟩ (F1 f)=w10 at *
    obtain⟨⟨p0,p1,p2,p3,p4,p5⟩,-⟩:=qd h8
    obtain⟨⟨q0,q1,q2,q3,q4,q5⟩,-⟩:=qd h7
    have hkept:=ze (keep hkept hbw) (show zc [(⟨g1,0,none⟩,F1 a),(⟨g1,1,none⟩,F1 b),(⟨g1,2,none⟩,F1 c),(⟨g1,3,none⟩,F1 d),(⟨g1,4,none⟩,F1 e),(⟨g1,5,none⟩,F1 r),(⟨g2,0,none⟩,F1 a),(⟨g2,1,none⟩,F1 b),(⟨g2,2,none⟩,F1 r),(⟨g2,3,none⟩,F1 d),(⟨g2,4,none⟩,F1 e),(⟨g2,5,none⟩,F1 f)] [] w10 by simp only[zc,ka,kb,zb,kfa,kga];simp[p0,p1,p2,p3,p4,p5,q0,q1,q2,q3,q4,q5])
    have W1b:=za W8b hbw
    clear p0 p1 p2 p3 p4 p5 q0 q1 q2 q3 q4 q5 h7 h8 hbw W8b
    have e1:cnB a b c d e r=(vf xk bB).1:=by rw[hsp.out,← hm,hB.out];rfl
    have e2:cnB a b r d e f=(vf xk bB).2:=by rw[hsp.out,← hm,hB.out];rfl
    rw[← e1,← e2,show xn bB=true from by rw[hB.out];exact hbx]at hOk
    have hK:=hkept;simp only[zc,ka,kb,zb,kfa,kga]at hK
    cases hv1:zaq (cn .f32 a,cn .f32 b,cn .f32 c) (cn .f32 d,cn .f32 e,cn .f32 r)
    ·have hno:Hid (ok=false):=by unfold Hid;rw[hOk.out,show xn (cnB a b c d e r)=false from hv1];rfl
     go_wp2_with (go_at_call 66;refine (jl _ _ _ _ _ _ _).mono ?_;rintro _ w3⟨rfl,hb1⟩;have W1b:=za W1b hb1;have hkept:=zn hkept hb1 rfl;replace hK:=hkept;simp only[zc,ka,kb,zb,kfa,kga]at hK;first|rw[hv1]|rw[hv2])
     exact bodyPost_ret (v:=.tuple #[ug 0 0 0 0 0 0,ug 0 0 0 0 0 0,.bool false]) (by simp[results,Tryz.results144,go_sem,hK,zf,zh];first|done|(rfl;done)|(repeat' constructor)) rfl ⟨0,0,0,0,0,0,0,0,0,0,0,0,by rw[hno.out],fun h=>(by rw[hno.out]at h;cases h),xr (xr W1b (by omega) ..) (by omega) ..⟩
    cases hv2:zaq (cn .f32 a,cn .f32 b,cn .f32 r) (cn .f32 d,cn .f32 e,cn .f32 f)
    ·have hno:Hid (ok=false):=by unfold Hid;rw[hOk.out,show xn (cnB a b r d e f)=false from hv2,Bool.and_false,Bool.and_false]
     go_wp2_with (go_at_call 66;refine (jl _ _ _ _ _ _ _).mono ?_;rintro _ w3⟨rfl,hb1⟩;have W1b:=za W1b hb1;have hkept:=zn hkept hb1 rfl;replace hK:=hkept;simp only[zc,ka,kb,zb,kfa,kga]at hK;first|rw[hv1]|rw[hv2])
     exact bodyPost_ret (v:=.tuple #[ug 0 0 0 0 0 0,ug 0 0 0 0 0 0,.bool false]) (by simp[results,Tryz.results144,go_sem,hK,zf,zh];first|done|(rfl;done)|(repeat' constructor)) rfl ⟨0,0,0,0,0,0,0,0,0,0,0,0,by rw[hno.out],fun h=>(by rw[hno.out]at h;cases h),xr (xr W1b (by omega) ..) (by omega) ..⟩
    have hyes:Hid (ok=true):=by unfold Hid;rw[hOk.out,show xn (cnB a b c d e r)=true from hv1,show xn (cnB a b r d e f)=true from hv2];rfl
    go_upto_region 15 with (go_at_call 66;refine (jl _ _ _ _ _ _ _).mono ?_;rintro _ w3⟨rfl,hb1⟩;have W1b:=za W1b hb1;have hkept:=zn hkept hb1 rfl;replace hK:=hkept;simp only[zc,ka,kb,zb,kfa,kga]at hK;first|rw[hv1]|rw[hv2])
    have m1:g1 ≠ w.heap.size+1:=by omega
    have m2:g1 ≠ w.heap.size+1+1:=by omega
    have m3:g2 ≠ w.heap.size+1:=by omega
    have m4:g2 ≠ w.heap.size+1+1:=by omega
    have m1':=Ne.symm m1
    have m2':=Ne.symm m2
    have m3':=Ne.symm m3
    have m4':=Ne.symm m4
    go_region
    rename_i aK
    refine aK _ _ ?_
    rw[hB.out]at e1 e2
    go_upto_region 99 with fail
    exact bodyPost_ret (v:=.tuple #[ug a b c d e r,ug a b r d e f,.bool true]) (by simp[results,Tryz.results144,go_sem,hK,zf,zh];first|done|(rfl;done)|(repeat' constructor)) rfl ⟨a,b,c,d,e,r,a,b,r,d,e,f,by rw[hyes.out],fun _=>⟨e1,e2⟩,(xr (xr W1b (by omega) ..) (by omega) ..).drew⟩
end Go.Proofs.YtbiacfkiakddiaaGreat
