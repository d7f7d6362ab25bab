/-
  Lemmas: V34.
-/
import Derived.Test.YtbiacfkiakddiaaGreatXbs
import Derived.Test.YtbiacfkiakddiaaGreatXce
set_option linter.unusedVariables false
set_option linter.unusedSimpArgs false
namespace Go.Proofs.YtbiacfkiakddiaaGreat
open Go.RowKit Go.Fl
def zy6 (l:List (Nat × Nat)) (n:Nat) (w:World) (e:Ending) (w':World):Prop:=∃ v rs,e=.returned v∧w'.ownsRow w.heap.size 118 2 v n (fr rs)∧rs.map cn2=l∧Below w.heap.size w w'
theorem znu {fold:Nat × Nat→Nat→Nat × Nat} {n:PN} (hok:n.ok) (hc:(zz n.kind).2.1=2) (p:Pl):k0 fold n p=p:=by
  have hr:=hok.kind
  obtain⟨k,na,nb,nums⟩:=n
  simp only at *
  have:k=0∨k=1∨k=2∨k=3∨k=4∨k=5∨k=6∨k=7∨k=8∨k=9∨k=10∨k=11∨k=12∨k=13∨k=14∨k=15∨k=16:=by omega
  rcases this with h|h|h|h|h|h|h|h|h|h|h|h|h|h|h|h|h<;>subst h<;>first|rfl|exact absurd hc (by decide)

theorem kg:zco 18442240474082181120:=by
  intro s m e h
  have:FloatKind.f64.decode 18442240474082181120=.infinity true:=by rfl
  rw[this]at h;cases h
theorem zui {b:Bool} {r:Nat × Nat} (h:(jq r.1 || jq r.2)=true):xj (za5 b r)=(zaz,kl):=by
  cases b
  · show xj (zaz,kl)=_
    unfold xj
    decide +kernel
  · show xj r=_
    unfold xj
    rw[h];rfl
theorem mr_inf:xj (zaz,kl)=(zaz,kl):=by
  unfold xj
  decide +kernel
theorem zpf {r:Nat × Nat} (h1:jq r.1=false) (h2:jq r.2=false):xj r=r:=by
  unfold xj
  rw[h1,h2];rfl
theorem zje {r:Nat × Nat} (h:(jq r.1 || jq r.2)=true):xj r=(zaz,kl):=by
  unfold xj
  rw[h];rfl

inductive PhiUn (R:Pl):FuncId→Array Value→Value→Prop
  | mk (args:Array Value) (a0 a1 b0 b1 c0 c1:Nat) (h:cn6 ((a0,a1),(b0,b1),(c0,c1))=R):PhiUn R 122 args (Rg3 a0 a1 b0 b1 c0 c1)
inductive PhiMy (R:Nat × Nat):FuncId→Array Value→Value→Prop
  | mk (args:Array Value) (l h:Nat) (e:(cn .f32 l,cn .f32 h)=R):PhiMy R 124 args (RgV l h)

set_option maxRecDepth 100000 in
set_option maxHeartbeats 8000000 in
theorem zkl (ns:List PN) (hok:qx ns) (hl:1≤ns.length∧ns.length≤16) (sb so nb no cap bb bo a b c d e f:Nat) (w:World) (hsh:ShapeIn ns sb so nb no cap w) (hbx:zc [(⟨bb,bo,none⟩,F1 a),(⟨bb,bo+1,none⟩,F1 b),(⟨bb,bo+2,none⟩,F1 c),(⟨bb,bo+3,none⟩,F1 d),(⟨bb,bo+4,none⟩,F1 e),(⟨bb,bo+5,none⟩,F1 f)] [] w) :
    Calls Tryz.prog 62 #[.pointer (some ⟨sb,so,none⟩),.pointer (some ⟨bb,bo,none⟩)] w (zy6 (j9 ns ((cn .f32 a,cn .f32 d),(cn .f32 b,cn .f32 e),(cn .f32 c,cn .f32 f))) ns.length w):=by
  have hlist:=hsh.list
  have hsb:sb<w.heap.size:=zg (a:=⟨sb,so,none⟩) (by rw[hlist];rfl)
  have hl16:=hl.2
  have hr1:(1:Int)≤(ns.length:Int):=by omega
  have hr2:(ns.length:Int)≤16:=by omega
  have hr0:(0:Int)≤(ns.length:Int)-1:=by omega
  have hr3:((ns.length:Int)-1).toNat=ns.length-1:=by omega
  have hr4:(ns.length:Int)-1<(ns.length:Int):=by omega
  have hwr:IntKind.i64.wrap ((ns.length:Int)-1)=(ns.length:Int)-1:=by
    rw[IntKind.wrap_i64]
    omega
  have hm:=zvq ns.length hl16 w
  go_enter Tryz.func62,Tryz.ntmps62
  go_upto_region 2 with fail
  clear hm
  have W1b:Below w.heap.size w (w.alloc (.cells (jb ns.length fun _=>qo) 180)):=zt ..
  have hpa:=zch w (.cells (jb ns.length fun _=>qo) 180)
  have hkept:=keep hbx W1b
  generalize w.alloc (.cells (jb ns.length fun _=>qo) 180)=W1 at *
  have hK:=hkept;simp only[zc,ka,kb,zb,kfa,kga]at hK
  refine Qr.wp_made 12 11 6 #[F1 0,F1 0] 118 (by kernel_rfl) (by kernel_rfl) PhiNone rfl (by kernel_rfl) ⟨_,rfl,rfl,fun a w=>by go_simp⟩ (by kernel_rfl) ?_
  repeat (first|(refine Qr.walk_plain rfl fun K hK=>?_;refine Qr.one_rel (fun v=>∃ g,v=.pointer (some ⟨g,0,none⟩)) (fun w' hw'=>⟨.pointer (some ⟨w'.heap.size,0,none⟩),_,by go_simp;rfl,⟨_,rfl⟩,hw'.alloc hw'.size _,zt ..⟩) (fun v hv=>?_);obtain⟨g,rfl⟩:=hv;go_simp;refine hK _ ?_;clear hK K)|(refine Qr.walk_plain rfl fun K hK=>?_;apply Qr.one_det;(focus (intro w' hw';have HK:=keep hkept hw';simp only[zc,ka,kb,zb,kfa,kga]at HK;go_simp;first|done|rfl));go_simp;refine hK _ ?_;clear hK K))
  refine Qr.walk_nil fun w3 hw3 hmade=>?_
  obtain⟨g3,hg3,hgw,hgc⟩:=hmade _ rfl
  injection hg3 with hg3
  injection hg3 with hg3
  subst hg3
  obtain⟨hc0,hc1,hf0,hf1⟩:=xc hgc
  have hset:=zay hgc (F1 a) (F1 d)
  have hbw:=hw3.trans (hset.2.mono hgw)
  go_upto_region 3 with fail
  clear hc0 hc1 hf0 hf1 hgc hw3
  generalize ((w3.setCell ⟨g,0,none⟩ (F1 a)).setCell ⟨g,1,none⟩ (F1 d))=W4 at hset hbw ⊢
  have hkept:=ze (keep hkept hbw) (show zc [(⟨g,0,none⟩,F1 a),(⟨g,1,none⟩,F1 d)] [] W4 from zm (xc hset.1).1 (zm (xc hset.1).2.1 ve))
  have gxn:w.heap.size ≠ g:=by have:=zl hpa;omega
  replace hpa:=(hbw.block w.heap.size (zl hpa)).trans hpa
  have W4b:=za W1b hbw
  obtain⟨gx,hgx⟩:∃ gx,gx=g:=⟨_,rfl⟩
  subst hgx
  clear hset hbw hK hgw
  have hK:=hkept;simp only[zc,ka,kb,zb,kfa,kga]at hK
  refine Qr.wp_made 12 11 7 #[F1 0,F1 0] 118 (by kernel_rfl) (by kernel_rfl) PhiNone rfl (by kernel_rfl) ⟨_,rfl,rfl,fun a w=>by go_simp⟩ (by kernel_rfl) ?_
  repeat (first|(refine Qr.walk_plain rfl fun K hK=>?_;refine Qr.one_rel (fun v=>∃ g,v=.pointer (some ⟨g,0,none⟩)) (fun w' hw'=>⟨.pointer (some ⟨w'.heap.size,0,none⟩),_,by go_simp;rfl,⟨_,rfl⟩,hw'.alloc hw'.size _,zt ..⟩) (fun v hv=>?_);obtain⟨g,rfl⟩:=hv;go_simp;refine hK _ ?_;clear hK K)|(refine Qr.walk_plain rfl fun K hK=>?_;apply Qr.one_det;(focus (intro w' hw';have HK:=keep hkept hw';simp only[zc,ka,kb,zb,kfa,kga]at HK;go_simp;first|done|rfl));go_simp;refine hK _ ?_;clear hK K))
  refine Qr.walk_nil fun w3 hw3 hmade=>?_
  obtain⟨g3,hg3,hgw,hgc⟩:=hmade _ rfl
  injection hg3 with hg3
  injection hg3 with hg3
  subst hg3
  obtain⟨hc0,hc1,hf0,hf1⟩:=xc hgc
  have hset:=zay hgc (F1 b) (F1 e)
  have hbw:=hw3.trans (hset.2.mono hgw)
  go_upto_region 4 with fail
  clear hc0 hc1 hf0 hf1 hgc hw3
  generalize ((w3.setCell ⟨g,0,none⟩ (F1 b)).setCell ⟨g,1,none⟩ (F1 e))=W5 at hset hbw ⊢
  have hkept:=ze (keep hkept hbw) (show zc [(⟨g,0,none⟩,F1 b),(⟨g,1,none⟩,F1 e)] [] W5 from zm (xc hset.1).1 (zm (xc hset.1).2.1 ve))
  have gyn:w.heap.size ≠ g:=by have:=zl hpa;omega
  replace hpa:=(hbw.block w.heap.size (zl hpa)).trans hpa
  have W5b:=za W4b hbw
  obtain⟨gy,hgy⟩:∃ gy,gy=g:=⟨_,rfl⟩
  subst hgy
  clear hset hbw hK hgw
  have hK:=hkept;simp only[zc,ka,kb,zb,kfa,kga]at hK
  refine Qr.wp_below 19 (by kernel_rfl) (by kernel_rfl) PhiNone ?_
  repeat (refine Qr.walk_plain rfl fun K hK=>?_;apply Qr.one_det;(focus (intro w' hw';have HK:=keep hkept hw';simp only[zc,ka,kb,zb,kfa,kga]at HK;go_simp;first|done|rfl));go_simp;refine hK _ ?_;clear hK K)
  refine Qr.walk_nil fun w6 hw6=>?_
  replace hpa:=(hw6.block w.heap.size (zl hpa)).trans hpa
  have W6b:=za W5b hw6
  obtain⟨q0,q1,q2,q3,q4,q5⟩:=vi hpa (ns.length-1) (by omega)
  have hfz:=vk hpa
  have hput:=Lib.hid (zni (x:=w6.heap[gx]?) hpa rfl gxn ve (by intro p hp;cases hp) W6b (Nat.le_refl _) (ns.length-1) a d b e c f)
  clear hpa hw6 hK hkept
  go_upto_region 5 with fail
  obtain⟨hpa,-,-,Wb⟩:=hput.out
  clear hput q0 q1 q2 q3 q4 q5 hfz W6b W1b W4b W5b
  generalize ((((((w6.setCell ⟨w.heap.size,(ns.length-1)*6,none⟩ (F1 a)).setCell ⟨w.heap.size,(ns.length-1)*6+1,none⟩ (F1 d)).setCell ⟨w.heap.size,(ns.length-1)*6+2,none⟩ (F1 b)).setCell ⟨w.heap.size,(ns.length-1)*6+3,none⟩ (F1 e)).setCell ⟨w.heap.size,(ns.length-1)*6+4,none⟩ (F1 c)).setCell ⟨w.heap.size,(ns.length-1)*6+5,none⟩ (F1 f))=w7 at *
  have hP0:Hid (∀ j,cn6 (vv (fun _=>qo) (ns.length-1) ((a,d),(b,e),(c,f)) j)=qw xl ns ((cn .f32 a,cn .f32 d),(cn .f32 b,cn .f32 e),(cn .f32 c,cn .f32 f)) (ns.length-ns.length) j):=Lib.hid (fun j=>by
    rw[Nat.sub_self]
    show cn6 (vv _ _ _ j)=vv _ _ _ j
    unfold vv
    split
    · rfl
    · show ((cn .f32 0,cn .f32 0),(cn .f32 0,cn .f32 0),(cn .f32 0,cn .f32 0))=_
      rw[ye])
  generalize vv (fun _=>qo) (ns.length-1) ((a,d),(b,e),(c,f))=P0 at *
  generalize ((cn .f32 a,cn .f32 d),(cn .f32 b,cn .f32 e),(cn .f32 c,cn .f32 f))=pl at *
  go_wp2_with fail
  go_loopw [8] (fun i wr=>∃ (m:Nat) (P:Nat→Pl),m≤ns.length∧i=.int .i64 ((m:Int)-1)∧wr.heap[w.heap.size]? = some (.cells (jb ns.length P) 180 (0,0))∧Hid (∀ j,cn6 (P j)=qw xl ns pl (ns.length-m) j)∧Below w.heap.size w wr) (fun i _=>(intOf i+1).toNat)
  case atStart=>exact⟨ns.length,P0,by omega,rfl,hpa,hP0,Wb⟩
  case round =>
    clear hpa hP0 Wb
    obtain⟨m,P,hm,rfl,hpa,hC,Wb⟩:=hrel
    cases m with
    | zero =>
      rw[show ((0:Nat):Int)-1=-1 from rfl]
      have hP:Hid (∀ j,cn6 (P j)=qw xl ns pl ns.length j):=hC
      clear hC
      have hSr:=(hsh.keep Wb).list
      go_wp2_with fail
      clear hSr
      obtain⟨C,hCg⟩:∃ C,Hid (qw xl ns pl ns.length=C):=⟨_,rfl⟩
      rw[hCg.out]at hP
      obtain⟨wE,hwE⟩:∃ wE,wE=wr:=⟨_,rfl⟩
      subst hwE
      have hww:w.heap.size≤wE.heap.size:=Wb.size
      have hpaE:=Lib.hid hpa
      have hwl:w.heap.size<wE.heap.size:=zl hpa
      go_loopw [10,11] (fun v i wq=>∃ (m:Nat) (rs:List (Nat × Nat)),m≤ns.length∧i=.int .i64 (m:Int)∧wE.heap.size≤wq.heap.size∧wq.ownsRow wE.heap.size 118 2 v m (fr rs)∧Hid (rs.map cn2=uu ja ns C m)∧wq.heap[w.heap.size]? = some (.cells (jb ns.length P) 180 (0,0))∧Below w.heap.size w wq) (fun _ i _=>ns.length-(intOf i).toNat)
      case atStart=>exact⟨0,[],by omega,rfl,by simp,World.ownsRow_lit wE #[] 0 (Nat.le_refl _) (by unfold maxLen;omega) rfl,rfl,by rw[jt _ hwl];exact hpa,Wb.alloc Wb.size _⟩
      case round =>
        clear hpa Wb
        obtain⟨m,rs,hm,rfl,hsz,hown,hrs,hpa,Wb⟩:=hrel
        by_cases hlt:m<ns.length
        · have hlt':(m:Int)<(ns.length:Int):=by omega
          have h0:(0:Int)≤(m:Int):=by omega
          have hn0:=hsh.node m hlt
          have hSr:=(hsh.keep Wb).list
          obtain⟨hokn,hca,hcb⟩:=hok m hlt
          have hg:Hid (ns[m]? = some ns[m]):=List.getElem?_eq_getElem hlt
          have hc3:=ur ns[m].kind
          obtain⟨hki1,hki2⟩:=zb4 hokn.kind
          generalize ns[m]=n at *
          have hnb:nb<w.heap.size:=zg (a:=⟨nb,no+m*4,none⟩) (by rw[hn0.kind];rfl)
          have hleaf:∀ (w:World),Calls Tryz.prog 119 #[.int .i64 n.kind] w (fun e w'=>e=.returned (.bool (inI n.kind 0 4))∧w=w'):=fun w=>kp _ w
          have htwo:∀ (w:World),Calls Tryz.prog 120 #[.int .i64 n.kind] w (fun e w'=>e=.returned (.bool (inI n.kind 5 8))∧w=w'):=fun w=>zah _ w
          go_upto_region 20 with fail
          clear hSr
          have hBr8:Below wr.heap.size wr (wr.alloc (.cells #[F1 0,F1 0] 118)):=zt ..
          have hgr8:=zch wr (.cells #[F1 0,F1 0] 118)
          have hpa8:=(hBr8.block w.heap.size (zl hpa)).trans hpa
          have W8b:=za Wb hBr8
          generalize wr.alloc (.cells #[F1 0,F1 0] 118)=W8 at *
          have hkind:=(hn0.keep W8b).kind
          rcases hc3 with hc|hc|hc
          · have hlf:inI n.kind 0 4=true:=by rw[hki1,hc];rfl
            clear hki1 hki2 hca hcb
            obtain⟨p0,p1,p2,p3,p4,p5⟩:=vi hpa8 m hlt
            have hsp:zfl w.heap.size (m*6) (P m).1.1 (P m).1.2 (P m).2.1.1 (P m).2.1.2 (P m).2.2.1 (P m).2.2.2 W8:=(zm p0 (zm p1 (zm p2 (zm p3 (zm p4 (zm p5 ve)))))).1
            have hcall:=zj8 (hn0.keep W8b) hokn hc (P m).1.1 (P m).1.2 (P m).2.1.1 (P m).2.1.2 (P m).2.2.1 (P m).2.2.2 hsp
            clear hsp p1 p2 p3 p4 p5 hpa8
            go_upto_region 24 with (first|(go_at_call 119;refine (hleaf _).mono ?_;rintro _ w4⟨rfl,rfl⟩;rw[hlf])|(go_at_call 123;refine hcall.mono ?_;rintro _ w9⟨l,u,rfl,e0,hb9⟩;have hgr9:=(hb9.block wr.heap.size (zl hgr8)).trans hgr8;obtain⟨r0,r1,r2,r3⟩:=xc hgr9))
            clear hcall p0 r0 r1 r2 r3
            have hBr:=((za hBr8 hb9).setCell (p:=⟨wr.heap.size,0,none⟩) (Nat.le_refl _) (F1 l)).setCell (p:=⟨wr.heap.size,1,none⟩) (Nat.le_refl _) (F1 u)
            have hgr:=(zay hgr9 (F1 l) (F1 u)).1
            clear hgr9 hb9 hgr8 hBr8 W8b
            generalize ((w9.setCell ⟨wr.heap.size,0,none⟩ (F1 l)).setCell ⟨wr.heap.size,1,none⟩ (F1 u))=w10 at *
            obtain⟨r0,r1,r2,r3⟩:=xc hgr
            have hkept:=zdh hgr
            have hbc:=zi w10.heap.size w10
            have hkind:=(hn0.keep (za Wb hBr)).kind
            have hpa10:=(hBr.block w.heap.size (zl hpa)).trans hpa
            obtain⟨p0,p1,p2,p3,p4,p5⟩:=vi hpa10 m hlt
            have hsp:zfl w.heap.size (m*6) (P m).1.1 (P m).1.2 (P m).2.1.1 (P m).2.1.2 (P m).2.2.1 (P m).2.2.2 w10:=(zm p0 (zm p1 (zm p2 (zm p3 (zm p4 (zm p5 ve)))))).1
            obtain⟨FV,hFV⟩:∃ FV,Hid (zqy (cn6 (P m))=FV):=⟨_,rfl⟩
            have hraw:Hid (xj (k7 ja n (C m) (uu ja ns C m))=xj (za5 FV (cn .f32 l,cn .f32 u))):=Lib.hid (by rw[e0];simp only[k7,hc];rw[← hP.out m,hFV.out];rfl)
            clear e0 p1 p2 p3 p4 p5 hpa10
            have hK:=hkept;simp only[zc,ka,kb,zb,kfa,kga]at hK
            have hBrH:=Lib.hid hBr
            have hgrH:=Lib.hid hgr
            have hpaH:=Lib.hid hpa
            have hownH:=Lib.hid hown
            have WbH:=Lib.hid Wb
            have hnH:=Lib.hid hn0
            have hshH:=Lib.hid hsh
            have hokH:=Lib.hid hok
            have hlHH:=Lib.hid hl
            have hknH:=Lib.hid hokn
            have hcH:=Lib.hid hc
            clear hBr hgr hpa hown Wb hn0 hsh hok hokn hc r0 r1 r2 r3 hr1 hr2 hr3 hr4 hr0 hwr hlist hbx hsb hnb hl16 hl htwo gxn gyn hwl
            cases h1:(FloatKind.f32.format.order l l != some .eq)
            · cases h2:(FloatKind.f32.format.order u u != some .eq)
              · cases FV
                · have tagm:True:=trivial
                  have tagn:True:=trivial
                  have tago:True:=trivial
                  have tagp:True:=trivial
                  go_upto_region 25 with (first|(go_at_call 119;refine (hleaf _).mono ?_;rintro _ w4⟨rfl,rfl⟩;rw[hlf])|(go_at_call 125;refine (zb1 hsp).mono ?_;rintro _ w8⟨rfl,hb1⟩;rw[hFV.out];(replace hbc:=hb1);have hkept:=zn hkept hb1 rfl;replace hK:=hkept;simp only[zc,ka,kb,zb,kfa,kga]at hK))
                  go_upto_region 26 with (first|(clear tagm;go_at_call 126;refine (zax _).mono ?_;rintro _ w9⟨rm,rfl,hrm,hb1⟩;(replace hbc:=za hbc hb1);have hkept:=zn hkept hb1 rfl;replace hK:=hkept;simp only[zc,ka,kb,zb,kfa,kga]at hK)|(clear tagn;refine vq (by kernel_rfl) 89 25 (.tmp 192) (by kernel_rfl) rm (by kernel_rfl) xb Tryz.underlying25 (by rw[hrm];exact kg) ?_;intro lo n1 hlo)|(clear tago;go_at_call 126;refine (qt _).mono ?_;rintro _ w11⟨rp,rfl,hrp,hb1⟩;(replace hbc:=za (zd hbc _) hb1);have hkept:=zn hkept hb1 rfl;replace hK:=hkept;simp only[zc,ka,kb,zb,kfa,kga]at hK)|(clear tagp;refine vq (by kernel_rfl) 89 25 (.tmp 194) (by kernel_rfl) rp (by kernel_rfl) xb Tryz.underlying25 (by rw[hrp];exact j1) ?_;intro up n2 hup))
                  have hlo2:cn .f32 lo=zaz:=by rw[hlo,hrm];decide +kernel
                  have hup2:cn .f32 up=kl:=by rw[hup,hrp];decide +kernel
                  have hval:(cn .f32 lo,cn .f32 up)=xj (k7 ja n (C m) (uu ja ns C m)):=by
                    rw[hlo2,hup2,hraw.out]
                    exact mr_inf.symm
                  have hBd:=((za hBrH.out (zd hbc n2)).setCell (p:=⟨wr.heap.size,0,none⟩) (Nat.le_refl _) (F1 lo)).setCell (p:=⟨wr.heap.size,1,none⟩) (Nat.le_refl _) (F1 up)
                  have hgd:=(zay (show (w11.drewN n2).heap[wr.heap.size]? = some (.cells #[F1 l,F1 u] 118 (0,0)) from (hbc.block _ (zl hgrH.out)).trans hgrH.out) (F1 lo) (F1 up)).1
                  clear hK hkept hbc hBrH hgrH hlo hup hrm hrp
                  generalize (((w11.drewN n2).setCell ⟨wr.heap.size,0,none⟩ (F1 lo)).setCell ⟨wr.heap.size,1,none⟩ (F1 up))=w12 at *
                  obtain⟨r0,r1,-,-⟩:=xc hgd
                  have hszd:=hBd.size
                  have hlH:1≤ns.length∧ns.length≤16:=hlHH.out
                  have hown11:=yg hownH.out hBd
                  have hpa:=(hBd.block w.heap.size (zl hpaH.out)).trans hpaH.out
                  have Wd:=za WbH.out hBd
                  have hwl:w.heap.size<wE.heap.size:=by have:=zl hpaE.out;omega
                  have hsh:=hshH.out
                  go_wp2_with (at_builtin;refine ku wE.heap.size rfl (.tmp 197) (.tmp 199) rfl _ m rs rfl (hown11.alloc _) w12.heap.size lo up rfl (by simp) (by simp) (by omega) (by simp;omega) ?_;intro v5 w5 hown5 hg5)
                  have hg5s:=hg5.size
                  rw[show (w12.alloc (.cells #[F1 lo,F1 up] 118)).heap.size=w12.heap.size+1 by simp]at hg5s
                  refine⟨⟨m+1,rs++[(lo,up)],by omega,by simp,by omega,hown5,Lib.hid ?_,?_,yx (Wd.alloc Wd.size _) (hown11.alloc _) hg5 hww⟩,by first|(simp[intOf];done)|(simp[intOf];omega)⟩
                  · rw[List.map_append,hrs.out,uu,hg.out]
                    simp only[List.map_cons,List.map_nil]
                    show _++[(cn .f32 lo,cn .f32 up)]=_
                    rw[hval]
                  · refine ud (hown11.alloc _) hg5 hwl (by have:=zl hpa;simp;omega) ?_
                    rw[jt _ (zl hpa)];exact hpa
                · have hval:(cn .f32 l,cn .f32 u)=xj (k7 ja n (C m) (uu ja ns C m)):=by
                    rw[hraw.out]
                    exact (zpf (r:=(cn .f32 l,cn .f32 u)) (vz h1) (vz h2)).symm
                  go_upto_region 26 with (first|(go_at_call 119;refine (hleaf _).mono ?_;rintro _ w4⟨rfl,rfl⟩;rw[hlf])|(go_at_call 125;refine (zb1 hsp).mono ?_;rintro _ w8⟨rfl,hb1⟩;rw[hFV.out];(replace hbc:=hb1);have hkept:=zn hkept hb1 rfl;replace hK:=hkept;simp only[zc,ka,kb,zb,kfa,kga]at hK))
                  have hBd:=za hBrH.out hbc
                  have hgd:=(hbc.block _ (zl hgrH.out)).trans hgrH.out
                  clear hK hkept hbc hBrH hgrH
                  obtain⟨r0,r1,-,-⟩:=xc hgd
                  have hszd:=hBd.size
                  have hlH:1≤ns.length∧ns.length≤16:=hlHH.out
                  have hown11:=yg hownH.out hBd
                  have hpa:=(hBd.block w.heap.size (zl hpaH.out)).trans hpaH.out
                  have Wd:=za WbH.out hBd
                  have hwl:w.heap.size<wE.heap.size:=by have:=zl hpaE.out;omega
                  have hsh:=hshH.out
                  go_wp2_with (at_builtin;refine ku wE.heap.size rfl (.tmp 197) (.tmp 199) rfl _ m rs rfl (hown11.alloc _) w8.heap.size l u rfl (by simp) (by simp) (by omega) (by simp;omega) ?_;intro v5 w5 hown5 hg5)
                  have hg5s:=hg5.size
                  rw[show (w8.alloc (.cells #[F1 l,F1 u] 118)).heap.size=w8.heap.size+1 by simp]at hg5s
                  refine⟨⟨m+1,rs++[(l,u)],by omega,by simp,by omega,hown5,Lib.hid ?_,?_,yx (Wd.alloc Wd.size _) (hown11.alloc _) hg5 hww⟩,by first|(simp[intOf];done)|(simp[intOf];omega)⟩
                  · rw[List.map_append,hrs.out,uu,hg.out]
                    simp only[List.map_cons,List.map_nil]
                    show _++[(cn .f32 l,cn .f32 u)]=_
                    rw[hval]
                  · refine ud (hown11.alloc _) hg5 hwl (by have:=zl hpa;simp;omega) ?_
                    rw[jt _ (zl hpa)];exact hpa
              · have tagm:True:=trivial
                have tagn:True:=trivial
                have tago:True:=trivial
                have tagp:True:=trivial
                go_upto_region 25 with (first|(go_at_call 119;refine (hleaf _).mono ?_;rintro _ w4⟨rfl,rfl⟩;rw[hlf])|(go_at_call 125;refine (zb1 hsp).mono ?_;rintro _ w8⟨rfl,hb1⟩;rw[hFV.out];(replace hbc:=hb1);have hkept:=zn hkept hb1 rfl;replace hK:=hkept;simp only[zc,ka,kb,zb,kfa,kga]at hK))
                go_upto_region 26 with (first|(clear tagm;go_at_call 126;refine (zax _).mono ?_;rintro _ w9⟨rm,rfl,hrm,hb1⟩;(replace hbc:=za hbc hb1);have hkept:=zn hkept hb1 rfl;replace hK:=hkept;simp only[zc,ka,kb,zb,kfa,kga]at hK)|(clear tagn;refine vq (by kernel_rfl) 89 25 (.tmp 192) (by kernel_rfl) rm (by kernel_rfl) xb Tryz.underlying25 (by rw[hrm];exact kg) ?_;intro lo n1 hlo)|(clear tago;go_at_call 126;refine (qt _).mono ?_;rintro _ w11⟨rp,rfl,hrp,hb1⟩;(replace hbc:=za (zd hbc _) hb1);have hkept:=zn hkept hb1 rfl;replace hK:=hkept;simp only[zc,ka,kb,zb,kfa,kga]at hK)|(clear tagp;refine vq (by kernel_rfl) 89 25 (.tmp 194) (by kernel_rfl) rp (by kernel_rfl) xb Tryz.underlying25 (by rw[hrp];exact j1) ?_;intro up n2 hup))
                have hlo2:cn .f32 lo=zaz:=by rw[hlo,hrm];decide +kernel
                have hup2:cn .f32 up=kl:=by rw[hup,hrp];decide +kernel
                have hval:(cn .f32 lo,cn .f32 up)=xj (k7 ja n (C m) (uu ja ns C m)):=by
                  rw[hlo2,hup2,hraw.out]
                  rw[zui (by rw[vz h1,vz h2];rfl)]
                have hBd:=((za hBrH.out (zd hbc n2)).setCell (p:=⟨wr.heap.size,0,none⟩) (Nat.le_refl _) (F1 lo)).setCell (p:=⟨wr.heap.size,1,none⟩) (Nat.le_refl _) (F1 up)
                have hgd:=(zay (show (w11.drewN n2).heap[wr.heap.size]? = some (.cells #[F1 l,F1 u] 118 (0,0)) from (hbc.block _ (zl hgrH.out)).trans hgrH.out) (F1 lo) (F1 up)).1
                clear hK hkept hbc hBrH hgrH hlo hup hrm hrp
                generalize (((w11.drewN n2).setCell ⟨wr.heap.size,0,none⟩ (F1 lo)).setCell ⟨wr.heap.size,1,none⟩ (F1 up))=w12 at *
                obtain⟨r0,r1,-,-⟩:=xc hgd
                have hszd:=hBd.size
                have hlH:1≤ns.length∧ns.length≤16:=hlHH.out
                have hown11:=yg hownH.out hBd
                have hpa:=(hBd.block w.heap.size (zl hpaH.out)).trans hpaH.out
                have Wd:=za WbH.out hBd
                have hwl:w.heap.size<wE.heap.size:=by have:=zl hpaE.out;omega
                have hsh:=hshH.out
                go_wp2_with (at_builtin;refine ku wE.heap.size rfl (.tmp 197) (.tmp 199) rfl _ m rs rfl (hown11.alloc _) w12.heap.size lo up rfl (by simp) (by simp) (by omega) (by simp;omega) ?_;intro v5 w5 hown5 hg5)
                have hg5s:=hg5.size
                rw[show (w12.alloc (.cells #[F1 lo,F1 up] 118)).heap.size=w12.heap.size+1 by simp]at hg5s
                refine⟨⟨m+1,rs++[(lo,up)],by omega,by simp,by omega,hown5,Lib.hid ?_,?_,yx (Wd.alloc Wd.size _) (hown11.alloc _) hg5 hww⟩,by first|(simp[intOf];done)|(simp[intOf];omega)⟩
                · rw[List.map_append,hrs.out,uu,hg.out]
                  simp only[List.map_cons,List.map_nil]
                  show _++[(cn .f32 lo,cn .f32 up)]=_
                  rw[hval]
                · refine ud (hown11.alloc _) hg5 hwl (by have:=zl hpa;simp;omega) ?_
                  rw[jt _ (zl hpa)];exact hpa
            · have tagm:True:=trivial
              have tagn:True:=trivial
              have tago:True:=trivial
              have tagp:True:=trivial
              go_upto_region 25 with (first|(go_at_call 119;refine (hleaf _).mono ?_;rintro _ w4⟨rfl,rfl⟩;rw[hlf])|(go_at_call 125;refine (zb1 hsp).mono ?_;rintro _ w8⟨rfl,hb1⟩;rw[hFV.out];(replace hbc:=hb1);have hkept:=zn hkept hb1 rfl;replace hK:=hkept;simp only[zc,ka,kb,zb,kfa,kga]at hK))
              go_upto_region 26 with (first|(clear tagm;go_at_call 126;refine (zax _).mono ?_;rintro _ w9⟨rm,rfl,hrm,hb1⟩;(replace hbc:=za hbc hb1);have hkept:=zn hkept hb1 rfl;replace hK:=hkept;simp only[zc,ka,kb,zb,kfa,kga]at hK)|(clear tagn;refine vq (by kernel_rfl) 89 25 (.tmp 192) (by kernel_rfl) rm (by kernel_rfl) xb Tryz.underlying25 (by rw[hrm];exact kg) ?_;intro lo n1 hlo)|(clear tago;go_at_call 126;refine (qt _).mono ?_;rintro _ w11⟨rp,rfl,hrp,hb1⟩;(replace hbc:=za (zd hbc _) hb1);have hkept:=zn hkept hb1 rfl;replace hK:=hkept;simp only[zc,ka,kb,zb,kfa,kga]at hK)|(clear tagp;refine vq (by kernel_rfl) 89 25 (.tmp 194) (by kernel_rfl) rp (by kernel_rfl) xb Tryz.underlying25 (by rw[hrp];exact j1) ?_;intro up n2 hup))
              have hlo2:cn .f32 lo=zaz:=by rw[hlo,hrm];decide +kernel
              have hup2:cn .f32 up=kl:=by rw[hup,hrp];decide +kernel
              have hval:(cn .f32 lo,cn .f32 up)=xj (k7 ja n (C m) (uu ja ns C m)):=by
                rw[hlo2,hup2,hraw.out]
                rw[zui (by rw[vz h1];rfl)]
              have hBd:=((za hBrH.out (zd hbc n2)).setCell (p:=⟨wr.heap.size,0,none⟩) (Nat.le_refl _) (F1 lo)).setCell (p:=⟨wr.heap.size,1,none⟩) (Nat.le_refl _) (F1 up)
              have hgd:=(zay (show (w11.drewN n2).heap[wr.heap.size]? = some (.cells #[F1 l,F1 u] 118 (0,0)) from (hbc.block _ (zl hgrH.out)).trans hgrH.out) (F1 lo) (F1 up)).1
              clear hK hkept hbc hBrH hgrH hlo hup hrm hrp
              generalize (((w11.drewN n2).setCell ⟨wr.heap.size,0,none⟩ (F1 lo)).setCell ⟨wr.heap.size,1,none⟩ (F1 up))=w12 at *
              obtain⟨r0,r1,-,-⟩:=xc hgd
              have hszd:=hBd.size
              have hlH:1≤ns.length∧ns.length≤16:=hlHH.out
              have hown11:=yg hownH.out hBd
              have hpa:=(hBd.block w.heap.size (zl hpaH.out)).trans hpaH.out
              have Wd:=za WbH.out hBd
              have hwl:w.heap.size<wE.heap.size:=by have:=zl hpaE.out;omega
              have hsh:=hshH.out
              go_wp2_with (at_builtin;refine ku wE.heap.size rfl (.tmp 197) (.tmp 199) rfl _ m rs rfl (hown11.alloc _) w12.heap.size lo up rfl (by simp) (by simp) (by omega) (by simp;omega) ?_;intro v5 w5 hown5 hg5)
              have hg5s:=hg5.size
              rw[show (w12.alloc (.cells #[F1 lo,F1 up] 118)).heap.size=w12.heap.size+1 by simp]at hg5s
              refine⟨⟨m+1,rs++[(lo,up)],by omega,by simp,by omega,hown5,Lib.hid ?_,?_,yx (Wd.alloc Wd.size _) (hown11.alloc _) hg5 hww⟩,by first|(simp[intOf];done)|(simp[intOf];omega)⟩
              · rw[List.map_append,hrs.out,uu,hg.out]
                simp only[List.map_cons,List.map_nil]
                show _++[(cn .f32 lo,cn .f32 up)]=_
                rw[hval]
              · refine ud (hown11.alloc _) hg5 hwl (by have:=zl hpa;simp;omega) ?_
                rw[jt _ (zl hpa)];exact hpa
          · have hlf:inI n.kind 0 4=false:=by rw[hki1,hc];rfl
            have htw:inI n.kind 5 8=false:=by rw[hki2,hc];rfl
            have hca':=hca (by rw[hc];decide)
            obtain⟨ca,hcaI⟩:=Int.eq_ofNat_of_zero_le hca'.1
            have hcal:ca<m:=by omega
            have hcaL:(ca:Int)<(m:Int):=by omega
            have hca0:(0:Int)≤(ca:Int):=by omega
            have hHa:Hid (n.a.toNat=ca):=by unfold Hid;rw[hcaI];rfl
            obtain⟨g6,cap6,rfl,hg6,hg6s⟩:=hown.form (by omega)
            have hlen:rs.length=m:=by have:=hown.1;rw[zot]at this;omega
            obtain⟨f0,f1⟩:=zg1 rs ca (by omega)
            have hA0:=hown.cellAt (ca*2) (by omega)
            have hA1:=hown.cellAt (ca*2+1) (by omega)
            rw[f0]at hA0
            rw[f1]at hA1
            have hgetA:Hid ((uu ja ns C m).getD ca (0,0)=cn2 rs[ca]):=by unfold Hid;rw[← hrs.out,List.getD_eq_getElem?_getD,List.getElem?_map,List.getElem?_eq_getElem (show ca<rs.length by omega)];rfl
            clear f0 f1
            generalize rs[ca]=ra at *
            have hA:=(hn0.keep Wb).a
            rw[hcaI]at hA
            clear hcaI hca'
            have hkept:=keep (show zc [(⟨nb,no+m*4+1,none⟩,.int .i64 (ca:Int)),(⟨g6,ca*2,none⟩,F1 ra.1),(⟨g6,ca*2+1,none⟩,F1 ra.2)] [] wr from zm hA (zm hA0 (zm hA1 ve))) hBr8
            have hcall:=ze1 (hn0.keep W8b) hokn (by rw[hc];decide) ra.1 ra.2 0 0
            clear hki1 hki2 hca hcb hA hA0 hA1 hg6 hg6s hpa8
            have hK:=hkept;simp only[zc,ka,kb,zb,kfa,kga]at hK
            clear hkept
            go_upto_region 24 with (first|(go_at_call 119;refine (hleaf _).mono ?_;rintro _ w4⟨rfl,rfl⟩;rw[hlf])|(go_at_call 120;refine (htwo _).mono ?_;rintro _ w4⟨rfl,rfl⟩;rw[htw])|(go_at_call 124;refine hcall.mono ?_;rintro _ w9⟨l,u,rfl,e0,hb9⟩;have hgr9:=(hb9.block wr.heap.size (zl hgr8)).trans hgr8;obtain⟨r0,r1,r2,r3⟩:=xc hgr9))
            clear hcall hK r0 r1 r2 r3
            have hBr:=((za hBr8 hb9).setCell (p:=⟨wr.heap.size,0,none⟩) (Nat.le_refl _) (F1 l)).setCell (p:=⟨wr.heap.size,1,none⟩) (Nat.le_refl _) (F1 u)
            have hgr:=(zay hgr9 (F1 l) (F1 u)).1
            clear hgr9 hb9 hgr8 hBr8 W8b
            generalize ((w9.setCell ⟨wr.heap.size,0,none⟩ (F1 l)).setCell ⟨wr.heap.size,1,none⟩ (F1 u))=w10 at *
            obtain⟨r0,r1,r2,r3⟩:=xc hgr
            have hkept:=zdh hgr
            have hbc:=zi w10.heap.size w10
            have hkind:=(hn0.keep (za Wb hBr)).kind
            have hraw:Hid (xj (k7 ja n (C m) (uu ja ns C m))=xj (cn .f32 l,cn .f32 u)):=Lib.hid (by rw[e0];simp only[k7,hc];rw[hHa.out,hgetA.out,ye];rfl)
            clear e0
            have hK:=hkept;simp only[zc,ka,kb,zb,kfa,kga]at hK
            have hBrH:=Lib.hid hBr
            have hgrH:=Lib.hid hgr
            have hpaH:=Lib.hid hpa
            have hownH:=Lib.hid hown
            have WbH:=Lib.hid Wb
            have hnH:=Lib.hid hn0
            have hshH:=Lib.hid hsh
            have hokH:=Lib.hid hok
            have hlHH:=Lib.hid hl
            have hknH:=Lib.hid hokn
            have hcH:=Lib.hid hc
            clear hBr hgr hpa hown Wb hn0 hsh hok hokn hc r0 r1 r2 r3 hr1 hr2 hr3 hr4 hr0 hwr hlist hbx hsb hnb hl16 hl htwo gxn gyn hwl
            cases h1:(FloatKind.f32.format.order l l != some .eq)
            · cases h2:(FloatKind.f32.format.order u u != some .eq)
              · have hval:(cn .f32 l,cn .f32 u)=xj (k7 ja n (C m) (uu ja ns C m)):=by
                  rw[hraw.out]
                  exact (zpf (r:=(cn .f32 l,cn .f32 u)) (vz h1) (vz h2)).symm
                go_upto_region 26 with (go_at_call 119;refine (hleaf _).mono ?_;rintro _ w4⟨rfl,rfl⟩;rw[hlf])
                have hBd:=za hBrH.out hbc
                have hgd:=(hbc.block _ (zl hgrH.out)).trans hgrH.out
                clear hK hkept hbc hBrH hgrH
                obtain⟨r0,r1,-,-⟩:=xc hgd
                have hszd:=hBd.size
                have hlH:1≤ns.length∧ns.length≤16:=hlHH.out
                have hown11:=yg hownH.out hBd
                have hpa:=(hBd.block w.heap.size (zl hpaH.out)).trans hpaH.out
                have Wd:=za WbH.out hBd
                have hwl:w.heap.size<wE.heap.size:=by have:=zl hpaE.out;omega
                have hsh:=hshH.out
                go_wp2_with (at_builtin;refine ku wE.heap.size rfl (.tmp 197) (.tmp 199) rfl _ m rs rfl (hown11.alloc _) w10.heap.size l u rfl (by simp) (by simp) (by omega) (by simp;omega) ?_;intro v5 w5 hown5 hg5)
                have hg5s:=hg5.size
                rw[show (w10.alloc (.cells #[F1 l,F1 u] 118)).heap.size=w10.heap.size+1 by simp]at hg5s
                refine⟨⟨m+1,rs++[(l,u)],by omega,by simp,by omega,hown5,Lib.hid ?_,?_,yx (Wd.alloc Wd.size _) (hown11.alloc _) hg5 hww⟩,by first|(simp[intOf];done)|(simp[intOf];omega)⟩
                · rw[List.map_append,hrs.out,uu,hg.out]
                  simp only[List.map_cons,List.map_nil]
                  show _++[(cn .f32 l,cn .f32 u)]=_
                  rw[hval]
                · refine ud (hown11.alloc _) hg5 hwl (by have:=zl hpa;simp;omega) ?_
                  rw[jt _ (zl hpa)];exact hpa
              · have tagm:True:=trivial
                have tagn:True:=trivial
                have tago:True:=trivial
                have tagp:True:=trivial
                go_upto_region 25 with (go_at_call 119;refine (hleaf _).mono ?_;rintro _ w4⟨rfl,rfl⟩;rw[hlf])
                go_upto_region 26 with (first|(clear tagm;go_at_call 126;refine (zax _).mono ?_;rintro _ w9⟨rm,rfl,hrm,hb1⟩;(replace hbc:=za hbc hb1);have hkept:=zn hkept hb1 rfl;replace hK:=hkept;simp only[zc,ka,kb,zb,kfa,kga]at hK)|(clear tagn;refine vq (by kernel_rfl) 89 25 (.tmp 192) (by kernel_rfl) rm (by kernel_rfl) xb Tryz.underlying25 (by rw[hrm];exact kg) ?_;intro lo n1 hlo)|(clear tago;go_at_call 126;refine (qt _).mono ?_;rintro _ w11⟨rp,rfl,hrp,hb1⟩;(replace hbc:=za (zd hbc _) hb1);have hkept:=zn hkept hb1 rfl;replace hK:=hkept;simp only[zc,ka,kb,zb,kfa,kga]at hK)|(clear tagp;refine vq (by kernel_rfl) 89 25 (.tmp 194) (by kernel_rfl) rp (by kernel_rfl) xb Tryz.underlying25 (by rw[hrp];exact j1) ?_;intro up n2 hup))
                have hlo2:cn .f32 lo=zaz:=by rw[hlo,hrm];decide +kernel
                have hup2:cn .f32 up=kl:=by rw[hup,hrp];decide +kernel
                have hval:(cn .f32 lo,cn .f32 up)=xj (k7 ja n (C m) (uu ja ns C m)):=by
                  rw[hlo2,hup2,hraw.out]
                  rw[zje (by rw[vz h1,vz h2];rfl)]
                have hBd:=((za hBrH.out (zd hbc n2)).setCell (p:=⟨wr.heap.size,0,none⟩) (Nat.le_refl _) (F1 lo)).setCell (p:=⟨wr.heap.size,1,none⟩) (Nat.le_refl _) (F1 up)
                have hgd:=(zay (show (w11.drewN n2).heap[wr.heap.size]? = some (.cells #[F1 l,F1 u] 118 (0,0)) from (hbc.block _ (zl hgrH.out)).trans hgrH.out) (F1 lo) (F1 up)).1
                clear hK hkept hbc hBrH hgrH hlo hup hrm hrp
                generalize (((w11.drewN n2).setCell ⟨wr.heap.size,0,none⟩ (F1 lo)).setCell ⟨wr.heap.size,1,none⟩ (F1 up))=w12 at *
                obtain⟨r0,r1,-,-⟩:=xc hgd
                have hszd:=hBd.size
                have hlH:1≤ns.length∧ns.length≤16:=hlHH.out
                have hown11:=yg hownH.out hBd
                have hpa:=(hBd.block w.heap.size (zl hpaH.out)).trans hpaH.out
                have Wd:=za WbH.out hBd
                have hwl:w.heap.size<wE.heap.size:=by have:=zl hpaE.out;omega
                have hsh:=hshH.out
                go_wp2_with (at_builtin;refine ku wE.heap.size rfl (.tmp 197) (.tmp 199) rfl _ m rs rfl (hown11.alloc _) w12.heap.size lo up rfl (by simp) (by simp) (by omega) (by simp;omega) ?_;intro v5 w5 hown5 hg5)
                have hg5s:=hg5.size
                rw[show (w12.alloc (.cells #[F1 lo,F1 up] 118)).heap.size=w12.heap.size+1 by simp]at hg5s
                refine⟨⟨m+1,rs++[(lo,up)],by omega,by simp,by omega,hown5,Lib.hid ?_,?_,yx (Wd.alloc Wd.size _) (hown11.alloc _) hg5 hww⟩,by first|(simp[intOf];done)|(simp[intOf];omega)⟩
                · rw[List.map_append,hrs.out,uu,hg.out]
                  simp only[List.map_cons,List.map_nil]
                  show _++[(cn .f32 lo,cn .f32 up)]=_
                  rw[hval]
                · refine ud (hown11.alloc _) hg5 hwl (by have:=zl hpa;simp;omega) ?_
                  rw[jt _ (zl hpa)];exact hpa
            · have tagm:True:=trivial
              have tagn:True:=trivial
              have tago:True:=trivial
              have tagp:True:=trivial
              go_upto_region 25 with (go_at_call 119;refine (hleaf _).mono ?_;rintro _ w4⟨rfl,rfl⟩;rw[hlf])
              go_upto_region 26 with (first|(clear tagm;go_at_call 126;refine (zax _).mono ?_;rintro _ w9⟨rm,rfl,hrm,hb1⟩;(replace hbc:=za hbc hb1);have hkept:=zn hkept hb1 rfl;replace hK:=hkept;simp only[zc,ka,kb,zb,kfa,kga]at hK)|(clear tagn;refine vq (by kernel_rfl) 89 25 (.tmp 192) (by kernel_rfl) rm (by kernel_rfl) xb Tryz.underlying25 (by rw[hrm];exact kg) ?_;intro lo n1 hlo)|(clear tago;go_at_call 126;refine (qt _).mono ?_;rintro _ w11⟨rp,rfl,hrp,hb1⟩;(replace hbc:=za (zd hbc _) hb1);have hkept:=zn hkept hb1 rfl;replace hK:=hkept;simp only[zc,ka,kb,zb,kfa,kga]at hK)|(clear tagp;refine vq (by kernel_rfl) 89 25 (.tmp 194) (by kernel_rfl) rp (by kernel_rfl) xb Tryz.underlying25 (by rw[hrp];exact j1) ?_;intro up n2 hup))
              have hlo2:cn .f32 lo=zaz:=by rw[hlo,hrm];decide +kernel
              have hup2:cn .f32 up=kl:=by rw[hup,hrp];decide +kernel
              have hval:(cn .f32 lo,cn .f32 up)=xj (k7 ja n (C m) (uu ja ns C m)):=by
                rw[hlo2,hup2,hraw.out]
                rw[zje (by rw[vz h1];rfl)]
              have hBd:=((za hBrH.out (zd hbc n2)).setCell (p:=⟨wr.heap.size,0,none⟩) (Nat.le_refl _) (F1 lo)).setCell (p:=⟨wr.heap.size,1,none⟩) (Nat.le_refl _) (F1 up)
              have hgd:=(zay (show (w11.drewN n2).heap[wr.heap.size]? = some (.cells #[F1 l,F1 u] 118 (0,0)) from (hbc.block _ (zl hgrH.out)).trans hgrH.out) (F1 lo) (F1 up)).1
              clear hK hkept hbc hBrH hgrH hlo hup hrm hrp
              generalize (((w11.drewN n2).setCell ⟨wr.heap.size,0,none⟩ (F1 lo)).setCell ⟨wr.heap.size,1,none⟩ (F1 up))=w12 at *
              obtain⟨r0,r1,-,-⟩:=xc hgd
              have hszd:=hBd.size
              have hlH:1≤ns.length∧ns.length≤16:=hlHH.out
              have hown11:=yg hownH.out hBd
              have hpa:=(hBd.block w.heap.size (zl hpaH.out)).trans hpaH.out
              have Wd:=za WbH.out hBd
              have hwl:w.heap.size<wE.heap.size:=by have:=zl hpaE.out;omega
              have hsh:=hshH.out
              go_wp2_with (at_builtin;refine ku wE.heap.size rfl (.tmp 197) (.tmp 199) rfl _ m rs rfl (hown11.alloc _) w12.heap.size lo up rfl (by simp) (by simp) (by omega) (by simp;omega) ?_;intro v5 w5 hown5 hg5)
              have hg5s:=hg5.size
              rw[show (w12.alloc (.cells #[F1 lo,F1 up] 118)).heap.size=w12.heap.size+1 by simp]at hg5s
              refine⟨⟨m+1,rs++[(lo,up)],by omega,by simp,by omega,hown5,Lib.hid ?_,?_,yx (Wd.alloc Wd.size _) (hown11.alloc _) hg5 hww⟩,by first|(simp[intOf];done)|(simp[intOf];omega)⟩
              · rw[List.map_append,hrs.out,uu,hg.out]
                simp only[List.map_cons,List.map_nil]
                show _++[(cn .f32 lo,cn .f32 up)]=_
                rw[hval]
              · refine ud (hown11.alloc _) hg5 hwl (by have:=zl hpa;simp;omega) ?_
                rw[jt _ (zl hpa)];exact hpa
          · have hlf:inI n.kind 0 4=false:=by rw[hki1,hc];rfl
            have htw:inI n.kind 5 8=true:=by rw[hki2,hc];rfl
            have hca':=hca (by rw[hc];decide)
            obtain⟨ca,hcaI⟩:=Int.eq_ofNat_of_zero_le hca'.1
            have hcal:ca<m:=by omega
            have hcaL:(ca:Int)<(m:Int):=by omega
            have hca0:(0:Int)≤(ca:Int):=by omega
            have hHa:Hid (n.a.toNat=ca):=by unfold Hid;rw[hcaI];rfl
            obtain⟨g6,cap6,rfl,hg6,hg6s⟩:=hown.form (by omega)
            have hlen:rs.length=m:=by have:=hown.1;rw[zot]at this;omega
            obtain⟨f0,f1⟩:=zg1 rs ca (by omega)
            have hA0:=hown.cellAt (ca*2) (by omega)
            have hA1:=hown.cellAt (ca*2+1) (by omega)
            rw[f0]at hA0
            rw[f1]at hA1
            have hgetA:Hid ((uu ja ns C m).getD ca (0,0)=cn2 rs[ca]):=by unfold Hid;rw[← hrs.out,List.getD_eq_getElem?_getD,List.getElem?_map,List.getElem?_eq_getElem (show ca<rs.length by omega)];rfl
            clear f0 f1
            generalize rs[ca]=ra at *
            have hA:=(hn0.keep Wb).a
            rw[hcaI]at hA
            clear hcaI hca'
            have hcb':=hcb hc
            obtain⟨cb,hcbI⟩:=Int.eq_ofNat_of_zero_le hcb'.1
            have hcbl:cb<m:=by omega
            have hcbL:(cb:Int)<(m:Int):=by omega
            have hcb0:(0:Int)≤(cb:Int):=by omega
            have hHb:Hid (n.b.toNat=cb):=by unfold Hid;rw[hcbI];rfl
            obtain⟨f0,f1⟩:=zg1 rs cb (by omega)
            have hB0:=hown.cellAt (cb*2) (by omega)
            have hB1:=hown.cellAt (cb*2+1) (by omega)
            rw[f0]at hB0
            rw[f1]at hB1
            have hgetB:Hid ((uu ja ns C m).getD cb (0,0)=cn2 rs[cb]):=by unfold Hid;rw[← hrs.out,List.getD_eq_getElem?_getD,List.getElem?_map,List.getElem?_eq_getElem (show cb<rs.length by omega)];rfl
            clear f0 f1
            generalize rs[cb]=rb at *
            have hB:=(hn0.keep Wb).b
            rw[hcbI]at hB
            clear hcbI hcb'
            have hkept:=keep (show zc [(⟨nb,no+m*4+1,none⟩,.int .i64 (ca:Int)),(⟨nb,no+m*4+2,none⟩,.int .i64 (cb:Int)),(⟨g6,ca*2,none⟩,F1 ra.1),(⟨g6,ca*2+1,none⟩,F1 ra.2),(⟨g6,cb*2,none⟩,F1 rb.1),(⟨g6,cb*2+1,none⟩,F1 rb.2)] [] wr from zm hA (zm hB (zm hA0 (zm hA1 (zm hB0 (zm hB1 ve)))))) hBr8
            clear hki1 hki2 hca hcb hA hA0 hA1 hB hB0 hB1 hg6 hg6s hpa8
            go_upto_region 23 with (first|(go_at_call 119;refine (hleaf _).mono ?_;rintro _ w4⟨rfl,rfl⟩;rw[hlf])|(go_at_call 120;refine (htwo _).mono ?_;rintro _ w4⟨rfl,rfl⟩;rw[htw]))
            have hK:=hkept;simp only[zc,ka,kb,zb,kfa,kga]at hK
            refine Qr.wp_below 16 (by kernel_rfl) (by kernel_rfl) (PhiMy (zss n (cn2 ra) (cn2 rb))) ?_
            repeat (refine Qr.walk_plain rfl fun K hK=>?_;(first|(apply Qr.one_det;(focus (intro w' hw';have HK:=keep hkept hw';simp only[zc,ka,kb,zb,kfa,kga]at HK;go_simp;first|done|rfl)))|(apply Qr.one_call;(focus (intro w' hw';go_simp;first|done|exact⟨rfl,rfl⟩));(focus (intro w' hw';go_at_call 124;refine (ze1 (hn0.keep (za W8b hw')) hokn (by rw[hc];decide) ra.1 ra.2 rb.1 rb.2).mono ?_;rintro _ w9⟨l1,u1,rfl,hr1,hb1⟩;exact⟨_,rfl,.mk _ _ _ hr1,za hw' ‹_›,by assumption⟩));intro v hv;cases hv));go_simp;refine hK _ ?_;clear hK K)
            rename_i l u e0
            refine Qr.walk_nil fun w9 hb9=>?_
            clear hK hkept
            have hgr9:=(hb9.block wr.heap.size (zl hgr8)).trans hgr8
            obtain⟨r0,r1,r2,r3⟩:=xc hgr9
            go_upto_region 24 with fail
            clear r0 r1 r2 r3
            have hBr:=((za hBr8 hb9).setCell (p:=⟨wr.heap.size,0,none⟩) (Nat.le_refl _) (F1 l)).setCell (p:=⟨wr.heap.size,1,none⟩) (Nat.le_refl _) (F1 u)
            have hgr:=(zay hgr9 (F1 l) (F1 u)).1
            clear hgr9 hb9 hgr8 hBr8 W8b
            generalize ((w9.setCell ⟨wr.heap.size,0,none⟩ (F1 l)).setCell ⟨wr.heap.size,1,none⟩ (F1 u))=w10 at *
            obtain⟨r0,r1,r2,r3⟩:=xc hgr
            have hkept:=zdh hgr
            have hbc:=zi w10.heap.size w10
            have hkind:=(hn0.keep (za Wb hBr)).kind
            have hraw:Hid (xj (k7 ja n (C m) (uu ja ns C m))=xj (cn .f32 l,cn .f32 u)):=Lib.hid (by rw[e0];simp only[k7,hc];rw[hHa.out,hHb.out,hgetA.out,hgetB.out])
            clear e0
            have hK:=hkept;simp only[zc,ka,kb,zb,kfa,kga]at hK
            have hBrH:=Lib.hid hBr
            have hgrH:=Lib.hid hgr
            have hpaH:=Lib.hid hpa
            have hownH:=Lib.hid hown
            have WbH:=Lib.hid Wb
            have hnH:=Lib.hid hn0
            have hshH:=Lib.hid hsh
            have hokH:=Lib.hid hok
            have hlHH:=Lib.hid hl
            have hknH:=Lib.hid hokn
            have hcH:=Lib.hid hc
            clear hBr hgr hpa hown Wb hn0 hsh hok hokn hc r0 r1 r2 r3 hr1 hr2 hr3 hr4 hr0 hwr hlist hbx hsb hnb hl16 hl htwo gxn gyn hwl
            cases h1:(FloatKind.f32.format.order l l != some .eq)
            · cases h2:(FloatKind.f32.format.order u u != some .eq)
              · have hval:(cn .f32 l,cn .f32 u)=xj (k7 ja n (C m) (uu ja ns C m)):=by
                  rw[hraw.out]
                  exact (zpf (r:=(cn .f32 l,cn .f32 u)) (vz h1) (vz h2)).symm
                go_upto_region 26 with (go_at_call 119;refine (hleaf _).mono ?_;rintro _ w4⟨rfl,rfl⟩;rw[hlf])
                have hBd:=za hBrH.out hbc
                have hgd:=(hbc.block _ (zl hgrH.out)).trans hgrH.out
                clear hK hkept hbc hBrH hgrH
                obtain⟨r0,r1,-,-⟩:=xc hgd
                have hszd:=hBd.size
                have hlH:1≤ns.length∧ns.length≤16:=hlHH.out
                have hown11:=yg hownH.out hBd
                have hpa:=(hBd.block w.heap.size (zl hpaH.out)).trans hpaH.out
                have Wd:=za WbH.out hBd
                have hwl:w.heap.size<wE.heap.size:=by have:=zl hpaE.out;omega
                have hsh:=hshH.out
                go_wp2_with (at_builtin;refine ku wE.heap.size rfl (.tmp 197) (.tmp 199) rfl _ m rs rfl (hown11.alloc _) w10.heap.size l u rfl (by simp) (by simp) (by omega) (by simp;omega) ?_;intro v5 w5 hown5 hg5)
                have hg5s:=hg5.size
                rw[show (w10.alloc (.cells #[F1 l,F1 u] 118)).heap.size=w10.heap.size+1 by simp]at hg5s
                refine⟨⟨m+1,rs++[(l,u)],by omega,by simp,by omega,hown5,Lib.hid ?_,?_,yx (Wd.alloc Wd.size _) (hown11.alloc _) hg5 hww⟩,by first|(simp[intOf];done)|(simp[intOf];omega)⟩
                · rw[List.map_append,hrs.out,uu,hg.out]
                  simp only[List.map_cons,List.map_nil]
                  show _++[(cn .f32 l,cn .f32 u)]=_
                  rw[hval]
                · refine ud (hown11.alloc _) hg5 hwl (by have:=zl hpa;simp;omega) ?_
                  rw[jt _ (zl hpa)];exact hpa
              · have tagm:True:=trivial
                have tagn:True:=trivial
                have tago:True:=trivial
                have tagp:True:=trivial
                go_upto_region 25 with (go_at_call 119;refine (hleaf _).mono ?_;rintro _ w4⟨rfl,rfl⟩;rw[hlf])
                go_upto_region 26 with (first|(clear tagm;go_at_call 126;refine (zax _).mono ?_;rintro _ w9⟨rm,rfl,hrm,hb1⟩;(replace hbc:=za hbc hb1);have hkept:=zn hkept hb1 rfl;replace hK:=hkept;simp only[zc,ka,kb,zb,kfa,kga]at hK)|(clear tagn;refine vq (by kernel_rfl) 89 25 (.tmp 192) (by kernel_rfl) rm (by kernel_rfl) xb Tryz.underlying25 (by rw[hrm];exact kg) ?_;intro lo n1 hlo)|(clear tago;go_at_call 126;refine (qt _).mono ?_;rintro _ w11⟨rp,rfl,hrp,hb1⟩;(replace hbc:=za (zd hbc _) hb1);have hkept:=zn hkept hb1 rfl;replace hK:=hkept;simp only[zc,ka,kb,zb,kfa,kga]at hK)|(clear tagp;refine vq (by kernel_rfl) 89 25 (.tmp 194) (by kernel_rfl) rp (by kernel_rfl) xb Tryz.underlying25 (by rw[hrp];exact j1) ?_;intro up n2 hup))
                have hlo2:cn .f32 lo=zaz:=by rw[hlo,hrm];decide +kernel
                have hup2:cn .f32 up=kl:=by rw[hup,hrp];decide +kernel
                have hval:(cn .f32 lo,cn .f32 up)=xj (k7 ja n (C m) (uu ja ns C m)):=by
                  rw[hlo2,hup2,hraw.out]
                  rw[zje (by rw[vz h1,vz h2];rfl)]
                have hBd:=((za hBrH.out (zd hbc n2)).setCell (p:=⟨wr.heap.size,0,none⟩) (Nat.le_refl _) (F1 lo)).setCell (p:=⟨wr.heap.size,1,none⟩) (Nat.le_refl _) (F1 up)
                have hgd:=(zay (show (w11.drewN n2).heap[wr.heap.size]? = some (.cells #[F1 l,F1 u] 118 (0,0)) from (hbc.block _ (zl hgrH.out)).trans hgrH.out) (F1 lo) (F1 up)).1
                clear hK hkept hbc hBrH hgrH hlo hup hrm hrp
                generalize (((w11.drewN n2).setCell ⟨wr.heap.size,0,none⟩ (F1 lo)).setCell ⟨wr.heap.size,1,none⟩ (F1 up))=w12 at *
                obtain⟨r0,r1,-,-⟩:=xc hgd
                have hszd:=hBd.size
                have hlH:1≤ns.length∧ns.length≤16:=hlHH.out
                have hown11:=yg hownH.out hBd
                have hpa:=(hBd.block w.heap.size (zl hpaH.out)).trans hpaH.out
                have Wd:=za WbH.out hBd
                have hwl:w.heap.size<wE.heap.size:=by have:=zl hpaE.out;omega
                have hsh:=hshH.out
                go_wp2_with (at_builtin;refine ku wE.heap.size rfl (.tmp 197) (.tmp 199) rfl _ m rs rfl (hown11.alloc _) w12.heap.size lo up rfl (by simp) (by simp) (by omega) (by simp;omega) ?_;intro v5 w5 hown5 hg5)
                have hg5s:=hg5.size
                rw[show (w12.alloc (.cells #[F1 lo,F1 up] 118)).heap.size=w12.heap.size+1 by simp]at hg5s
                refine⟨⟨m+1,rs++[(lo,up)],by omega,by simp,by omega,hown5,Lib.hid ?_,?_,yx (Wd.alloc Wd.size _) (hown11.alloc _) hg5 hww⟩,by first|(simp[intOf];done)|(simp[intOf];omega)⟩
                · rw[List.map_append,hrs.out,uu,hg.out]
                  simp only[List.map_cons,List.map_nil]
                  show _++[(cn .f32 lo,cn .f32 up)]=_
                  rw[hval]
                · refine ud (hown11.alloc _) hg5 hwl (by have:=zl hpa;simp;omega) ?_
                  rw[jt _ (zl hpa)];exact hpa
            · have tagm:True:=trivial
              have tagn:True:=trivial
              have tago:True:=trivial
              have tagp:True:=trivial
              go_upto_region 25 with (go_at_call 119;refine (hleaf _).mono ?_;rintro _ w4⟨rfl,rfl⟩;rw[hlf])
              go_upto_region 26 with (first|(clear tagm;go_at_call 126;refine (zax _).mono ?_;rintro _ w9⟨rm,rfl,hrm,hb1⟩;(replace hbc:=za hbc hb1);have hkept:=zn hkept hb1 rfl;replace hK:=hkept;simp only[zc,ka,kb,zb,kfa,kga]at hK)|(clear tagn;refine vq (by kernel_rfl) 89 25 (.tmp 192) (by kernel_rfl) rm (by kernel_rfl) xb Tryz.underlying25 (by rw[hrm];exact kg) ?_;intro lo n1 hlo)|(clear tago;go_at_call 126;refine (qt _).mono ?_;rintro _ w11⟨rp,rfl,hrp,hb1⟩;(replace hbc:=za (zd hbc _) hb1);have hkept:=zn hkept hb1 rfl;replace hK:=hkept;simp only[zc,ka,kb,zb,kfa,kga]at hK)|(clear tagp;refine vq (by kernel_rfl) 89 25 (.tmp 194) (by kernel_rfl) rp (by kernel_rfl) xb Tryz.underlying25 (by rw[hrp];exact j1) ?_;intro up n2 hup))
              have hlo2:cn .f32 lo=zaz:=by rw[hlo,hrm];decide +kernel
              have hup2:cn .f32 up=kl:=by rw[hup,hrp];decide +kernel
              have hval:(cn .f32 lo,cn .f32 up)=xj (k7 ja n (C m) (uu ja ns C m)):=by
                rw[hlo2,hup2,hraw.out]
                rw[zje (by rw[vz h1];rfl)]
              have hBd:=((za hBrH.out (zd hbc n2)).setCell (p:=⟨wr.heap.size,0,none⟩) (Nat.le_refl _) (F1 lo)).setCell (p:=⟨wr.heap.size,1,none⟩) (Nat.le_refl _) (F1 up)
              have hgd:=(zay (show (w11.drewN n2).heap[wr.heap.size]? = some (.cells #[F1 l,F1 u] 118 (0,0)) from (hbc.block _ (zl hgrH.out)).trans hgrH.out) (F1 lo) (F1 up)).1
              clear hK hkept hbc hBrH hgrH hlo hup hrm hrp
              generalize (((w11.drewN n2).setCell ⟨wr.heap.size,0,none⟩ (F1 lo)).setCell ⟨wr.heap.size,1,none⟩ (F1 up))=w12 at *
              obtain⟨r0,r1,-,-⟩:=xc hgd
              have hszd:=hBd.size
              have hlH:1≤ns.length∧ns.length≤16:=hlHH.out
              have hown11:=yg hownH.out hBd
              have hpa:=(hBd.block w.heap.size (zl hpaH.out)).trans hpaH.out
              have Wd:=za WbH.out hBd
              have hwl:w.heap.size<wE.heap.size:=by have:=zl hpaE.out;omega
              have hsh:=hshH.out
              go_wp2_with (at_builtin;refine ku wE.heap.size rfl (.tmp 197) (.tmp 199) rfl _ m rs rfl (hown11.alloc _) w12.heap.size lo up rfl (by simp) (by simp) (by omega) (by simp;omega) ?_;intro v5 w5 hown5 hg5)
              have hg5s:=hg5.size
              rw[show (w12.alloc (.cells #[F1 lo,F1 up] 118)).heap.size=w12.heap.size+1 by simp]at hg5s
              refine⟨⟨m+1,rs++[(lo,up)],by omega,by simp,by omega,hown5,Lib.hid ?_,?_,yx (Wd.alloc Wd.size _) (hown11.alloc _) hg5 hww⟩,by first|(simp[intOf];done)|(simp[intOf];omega)⟩
              · rw[List.map_append,hrs.out,uu,hg.out]
                simp only[List.map_cons,List.map_nil]
                show _++[(cn .f32 lo,cn .f32 up)]=_
                rw[hval]
              · refine ud (hown11.alloc _) hg5 hwl (by have:=zl hpa;simp;omega) ?_
                rw[jt _ (zl hpa)];exact hpa
        · obtain rfl:m=ns.length:=by omega
          have hSr:=(hsh.keep Wb).list
          go_wp2_with fail
          go_ret
          exact⟨_,rs,rfl,World.ownsRow.mono hown hww,by rw[hrs.out,j9,hCg.out],Wb⟩
    | succ k =>
      have hk1:((k+1:Nat):Int)-1=(k:Int):=by omega
      rw[hk1]
      have hk0:(0:Int)≤(k:Int):=by omega
      have hkl:(k:Int)<(ns.length:Int):=by omega
      have hkn:k<ns.length:=by omega
      have hn0:=hsh.node k hkn
      have hSr:=(hsh.keep Wb).list
      have hnb:nb<w.heap.size:=zg (a:=⟨nb,no+k*4,none⟩) (by rw[(hsh.node k hkn).kind];rfl)
      obtain⟨hokn,hca,hcb⟩:=hok k hkn
      have hrun:Hid (qw xl ns pl (ns.length-k)=za2 xl ns[k] k (qw xl ns pl (ns.length-(k+1)))):=by
        have h1:ns.length-k=(ns.length-(k+1))+1:=by omega
        have h2:ns.length-1-(ns.length-(k+1))=k:=by omega
        unfold Hid
        rw[h1,qw,h2,List.getElem?_eq_getElem hkn]
      obtain⟨hki1,hki2⟩:=zb4 hokn.kind
      have hc3:=ur ns[k].kind
      generalize ns[k]=n at *
      have hleaf:∀ (w:World),Calls Tryz.prog 119 #[.int .i64 n.kind] w (fun e w'=>e=.returned (.bool (inI n.kind 0 4))∧w=w'):=fun w=>kp _ w
      have htwo:∀ (w:World),Calls Tryz.prog 120 #[.int .i64 n.kind] w (fun e w'=>e=.returned (.bool (inI n.kind 5 8))∧w=w'):=fun w=>zah _ w
      have hkind:=(hn0.keep Wb).kind
      rcases hc3 with hc|hc|hc
      · have hlf:inI n.kind 0 4=true:=by rw[hki1,hc];rfl
        clear hki1 hki2 hca hcb
        have hCk:Hid (∀ j,cn6 (P j)=qw xl ns pl (ns.length-k) j):=Lib.hid (fun j=>by rw[hrun.out,za2,hc];exact hC.out j)
        go_wp2_with (go_at_call 119;refine (hleaf _).mono ?_;rintro _ w4⟨rfl,rfl⟩;rw[hlf])
        first
          | exact⟨⟨k,P,by omega,rfl,hpa,hCk,Wb⟩,by first|(simp[intOf];done)|(simp[intOf];omega)⟩
          | (refine⟨?_,?_⟩;(focus ((repeat apply Exists.intro);refine⟨?_,rfl⟩));rotate_left;rotate_left
             · exact⟨k,P,by omega,rfl,hpa,hCk,Wb⟩
             · first|(simp[intOf];done)|(simp[intOf];omega))
      · have hlf:inI n.kind 0 4=false:=by rw[hki1,hc];rfl
        have htw:inI n.kind 5 8=false:=by rw[hki2,hc];rfl
        have hca':=hca (by rw[hc];decide)
        obtain⟨ca,hcaI⟩:=Int.eq_ofNat_of_zero_le hca'.1
        have hcal:ca<k:=by omega
        have hcan:ca<ns.length:=by omega
        have hcaL:(ca:Int)<(ns.length:Int):=by omega
        have hca0:(0:Int)≤(ca:Int):=by omega
        have hHa:Hid (n.a.toNat=ca):=by unfold Hid;rw[hcaI];rfl
        clear hki1 hki2 hca hcb hca'
        go_upto_region 10 with (go_at_call 119;refine (hleaf _).mono ?_;rintro _ w4⟨rfl,rfl⟩;rw[hlf])
        obtain⟨p0,p1,p2,p3,p4,p5⟩:=vi hpa k hkn
        have hA:=(hn0.keep Wb).a
        rw[hcaI]at hA
        clear hcaI
        have hkept:zc [(⟨nb,no+k*4+1,none⟩,.int .i64 (ca:Int)),(⟨w.heap.size,k*6,none⟩,F1 (P k).1.1),(⟨w.heap.size,k*6+1,none⟩,F1 (P k).1.2),(⟨w.heap.size,k*6+2,none⟩,F1 (P k).2.1.1),(⟨w.heap.size,k*6+3,none⟩,F1 (P k).2.1.2),(⟨w.heap.size,k*6+4,none⟩,F1 (P k).2.2.1),(⟨w.heap.size,k*6+5,none⟩,F1 (P k).2.2.2)] [] wr:=by
          simp only[zc,ka,kb,zb,kfa,kga]
          exact⟨hA,p0,p1,p2,p3,p4,p5⟩
        clear p0 p1 p2 p3 p4 p5 hA hSr hkind
        have hcall:=fun w' hw'=>zgd (hn0.keep (za Wb (show Below wr.heap.size wr w' from hw'))) hokn (by rw[hc];decide) (P k).1.1 (P k).1.2 (P k).2.1.1 (P k).2.1.2 (P k).2.2.1 (P k).2.2.2
        refine Qr.wp_below 12 (by kernel_rfl) (by kernel_rfl) (PhiUn (k0 xl n (cn6 (P k)))) ?_
        repeat (refine Qr.walk_plain rfl fun K hK=>?_;(first|(apply Qr.one_det;(focus (intro w' hw';have HK:=keep hkept hw';simp only[zc,ka,kb,zb,kfa,kga]at HK;go_simp;first|done|rfl)))|(apply Qr.one_call;(focus (intro w' hw';go_simp;first|done|exact⟨rfl,rfl⟩));(focus (intro w' hw';go_at_call 122;refine (hcall _ hw').mono ?_;rintro _ w2⟨a0,a1,b0,b1,c0,c1,rfl,e0,e1,e2,hb1⟩;exact⟨_,rfl,.mk _ _ _ _ _ _ _ (by show ((cn .f32 a0,cn .f32 a1),(cn .f32 b0,cn .f32 b1),(cn .f32 c0,cn .f32 c1))=_;rw[e0,e1,e2]),za hw' ‹_›,by assumption⟩));intro v hv;cases hv));go_simp;refine hK _ ?_;clear hK K)
        rename_i v0 v1 v2 v3 v4 v5 hv
        refine Qr.walk_nil fun w6 hw6=>?_
        replace hpa:=(hw6.block w.heap.size (zl hpa)).trans hpa
        have W6b:=za Wb hw6
        obtain⟨q0,q1,q2,q3,q4,q5⟩:=vi hpa ca hcan
        have hfz:=vk hpa
        have hput:=Lib.hid (zni (gb:=w.heap.size+1) (x:=w6.heap[w.heap.size+1]?) hpa rfl (by omega) ve (by intro p hp;cases hp) W6b (Nat.le_refl _) ca v0 v1 v2 v3 v4 v5)
        clear hpa hw6 hkept hcall Wb
        go_upto_region 11 with fail
        clear q0 q1 q2 q3 q4 q5 hfz W6b
        obtain⟨hpa,-,-,Wb⟩:=hput.out
        clear hput
        generalize ((((((w6.setCell ⟨w.heap.size,ca*6,none⟩ (F1 v0)).setCell ⟨w.heap.size,ca*6+1,none⟩ (F1 v1)).setCell ⟨w.heap.size,ca*6+2,none⟩ (F1 v2)).setCell ⟨w.heap.size,ca*6+3,none⟩ (F1 v3)).setCell ⟨w.heap.size,ca*6+4,none⟩ (F1 v4)).setCell ⟨w.heap.size,ca*6+5,none⟩ (F1 v5))=w7 at *
        have hkind:=(hn0.keep Wb).kind
        have hP:Hid (∀ j,cn6 (vv P ca ((v0,v1),(v2,v3),(v4,v5)) j)=qw xl ns pl (ns.length-k) j):=Lib.hid (fun j=>by
          rw[hrun.out,za2,hc]
          simp only[hHa.out]
          rw[← hC.out k,← hv]
          unfold vv
          split
          · rfl
          · exact hC.out j)
        clear hv
        go_wp2_with (go_at_call 120;refine (htwo _).mono ?_;rintro _ w4⟨rfl,rfl⟩;rw[htw])
        first
          | exact⟨⟨k,_,by omega,rfl,hpa,hP,Wb⟩,by first|(simp[intOf];done)|(simp[intOf];omega)⟩
          | (refine⟨?_,?_⟩;(focus ((repeat apply Exists.intro);refine⟨?_,rfl⟩));rotate_left;rotate_left
             · exact⟨k,_,by omega,rfl,hpa,hP,Wb⟩
             · first|(simp[intOf];done)|(simp[intOf];omega))
      · have hlf:inI n.kind 0 4=false:=by rw[hki1,hc];rfl
        have htw:inI n.kind 5 8=true:=by rw[hki2,hc];rfl
        have hca':=hca (by rw[hc];decide)
        obtain⟨ca,hcaI⟩:=Int.eq_ofNat_of_zero_le hca'.1
        have hcal:ca<k:=by omega
        have hcan:ca<ns.length:=by omega
        have hcaL:(ca:Int)<(ns.length:Int):=by omega
        have hca0:(0:Int)≤(ca:Int):=by omega
        have hHa:Hid (n.a.toNat=ca):=by unfold Hid;rw[hcaI];rfl
        have hcb':=hcb hc
        obtain⟨cb,hcbI⟩:=Int.eq_ofNat_of_zero_le hcb'.1
        have hcbl:cb<k:=by omega
        have hcbn:cb<ns.length:=by omega
        have hcbL:(cb:Int)<(ns.length:Int):=by omega
        have hcb0:(0:Int)≤(cb:Int):=by omega
        have hHb:Hid (n.b.toNat=cb):=by unfold Hid;rw[hcbI];rfl
        have hcbH:=Lib.hid hcbI
        clear hcb' hcbI
        clear hki1 hki2 hca hcb hca'
        go_upto_region 10 with (go_at_call 119;refine (hleaf _).mono ?_;rintro _ w4⟨rfl,rfl⟩;rw[hlf])
        obtain⟨p0,p1,p2,p3,p4,p5⟩:=vi hpa k hkn
        have hA:=(hn0.keep Wb).a
        rw[hcaI]at hA
        clear hcaI
        have hkept:zc [(⟨nb,no+k*4+1,none⟩,.int .i64 (ca:Int)),(⟨w.heap.size,k*6,none⟩,F1 (P k).1.1),(⟨w.heap.size,k*6+1,none⟩,F1 (P k).1.2),(⟨w.heap.size,k*6+2,none⟩,F1 (P k).2.1.1),(⟨w.heap.size,k*6+3,none⟩,F1 (P k).2.1.2),(⟨w.heap.size,k*6+4,none⟩,F1 (P k).2.2.1),(⟨w.heap.size,k*6+5,none⟩,F1 (P k).2.2.2)] [] wr:=by
          simp only[zc,ka,kb,zb,kfa,kga]
          exact⟨hA,p0,p1,p2,p3,p4,p5⟩
        clear p0 p1 p2 p3 p4 p5 hA hSr hkind
        have hcall:=fun w' hw'=>zgd (hn0.keep (za Wb (show Below wr.heap.size wr w' from hw'))) hokn (by rw[hc];decide) (P k).1.1 (P k).1.2 (P k).2.1.1 (P k).2.1.2 (P k).2.2.1 (P k).2.2.2
        refine Qr.wp_below 12 (by kernel_rfl) (by kernel_rfl) (PhiUn (k0 xl n (cn6 (P k)))) ?_
        repeat (refine Qr.walk_plain rfl fun K hK=>?_;(first|(apply Qr.one_det;(focus (intro w' hw';have HK:=keep hkept hw';simp only[zc,ka,kb,zb,kfa,kga]at HK;go_simp;first|done|rfl)))|(apply Qr.one_call;(focus (intro w' hw';go_simp;first|done|exact⟨rfl,rfl⟩));(focus (intro w' hw';go_at_call 122;refine (hcall _ hw').mono ?_;rintro _ w2⟨a0,a1,b0,b1,c0,c1,rfl,e0,e1,e2,hb1⟩;exact⟨_,rfl,.mk _ _ _ _ _ _ _ (by show ((cn .f32 a0,cn .f32 a1),(cn .f32 b0,cn .f32 b1),(cn .f32 c0,cn .f32 c1))=_;rw[e0,e1,e2]),za hw' ‹_›,by assumption⟩));intro v hv;cases hv));go_simp;refine hK _ ?_;clear hK K)
        rename_i v0 v1 v2 v3 v4 v5 hv
        refine Qr.walk_nil fun w6 hw6=>?_
        replace hpa:=(hw6.block w.heap.size (zl hpa)).trans hpa
        have W6b:=za Wb hw6
        obtain⟨q0,q1,q2,q3,q4,q5⟩:=vi hpa ca hcan
        have hfz:=vk hpa
        have hput:=Lib.hid (zni (gb:=w.heap.size+1) (x:=w6.heap[w.heap.size+1]?) hpa rfl (by omega) ve (by intro p hp;cases hp) W6b (Nat.le_refl _) ca v0 v1 v2 v3 v4 v5)
        clear hpa hw6 hkept hcall Wb
        go_upto_region 11 with fail
        clear q0 q1 q2 q3 q4 q5 hfz W6b
        obtain⟨hpa,-,-,Wb⟩:=hput.out
        clear hput
        generalize ((((((w6.setCell ⟨w.heap.size,ca*6,none⟩ (F1 v0)).setCell ⟨w.heap.size,ca*6+1,none⟩ (F1 v1)).setCell ⟨w.heap.size,ca*6+2,none⟩ (F1 v2)).setCell ⟨w.heap.size,ca*6+3,none⟩ (F1 v3)).setCell ⟨w.heap.size,ca*6+4,none⟩ (F1 v4)).setCell ⟨w.heap.size,ca*6+5,none⟩ (F1 v5))=w7 at *
        have hkind:=(hn0.keep Wb).kind
        have hP:Hid (∀ j,cn6 (vv (vv P ca ((v0,v1),(v2,v3),(v4,v5))) cb ((P k).1,(P k).2.1,(P k).2.2) j)=qw xl ns pl (ns.length-k) j):=Lib.hid (fun j=>by
          rw[hrun.out,za2,hc]
          simp only[hHa.out,hHb.out]
          rw[znu hokn hc]at hv
          rw[← hC.out k]
          unfold vv
          split
          · rfl
          · split
            · exact hv
            · exact hC.out j)
        clear hv
        go_upto_region 12 with (go_at_call 120;refine (htwo _).mono ?_;rintro _ w4⟨rfl,rfl⟩;rw[htw])
        obtain⟨p0,p1,p2,p3,p4,p5⟩:=vi hpa k hkn
        rw[zjk P (show k ≠ ca by omega) _]at p0 p1 p2 p3 p4 p5
        have hB:=(hn0.keep Wb).b
        rw[hcbH.out]at hB
        have hkept:zc [(⟨nb,no+k*4+2,none⟩,.int .i64 (cb:Int)),(⟨w.heap.size,k*6,none⟩,F1 (P k).1.1),(⟨w.heap.size,k*6+1,none⟩,F1 (P k).1.2),(⟨w.heap.size,k*6+2,none⟩,F1 (P k).2.1.1),(⟨w.heap.size,k*6+3,none⟩,F1 (P k).2.1.2),(⟨w.heap.size,k*6+4,none⟩,F1 (P k).2.2.1),(⟨w.heap.size,k*6+5,none⟩,F1 (P k).2.2.2)] [] w7:=by
          simp only[zc,ka,kb,zb,kfa,kga]
          exact⟨hB,p0,p1,p2,p3,p4,p5⟩
        clear p0 p1 p2 p3 p4 p5 hB hkind
        refine Qr.wp_below 10 (by kernel_rfl) (by kernel_rfl) PhiNone ?_
        repeat (refine Qr.walk_plain rfl fun K hK=>?_;apply Qr.one_det;(focus (intro w' hw';have HK:=keep hkept hw';simp only[zc,ka,kb,zb,kfa,kga]at HK;go_simp;first|done|rfl));go_simp;refine hK _ ?_;clear hK K)
        refine Qr.walk_nil fun w8 hw8=>?_
        replace hpa:=(hw8.block w.heap.size (zl hpa)).trans hpa
        have W8b:=za Wb hw8
        obtain⟨q0,q1,q2,q3,q4,q5⟩:=vi hpa cb hcbn
        have hfz:=vk hpa
        have hput:=Lib.hid (zni (gb:=w.heap.size+1) (x:=w8.heap[w.heap.size+1]?) hpa rfl (by omega) ve (by intro p hp;cases hp) W8b (Nat.le_refl _) cb (P k).1.1 (P k).1.2 (P k).2.1.1 (P k).2.1.2 (P k).2.2.1 (P k).2.2.2)
        clear hpa hw8 hkept Wb
        go_wp2_with fail
        clear q0 q1 q2 q3 q4 q5 hfz W8b
        obtain⟨hpa,-,-,Wb⟩:=hput.out
        clear hput
        first
          | exact⟨⟨k,_,by omega,rfl,hpa,hP,Wb⟩,by first|(simp[intOf];done)|(simp[intOf];omega)⟩
          | (refine⟨?_,?_⟩;(focus ((repeat apply Exists.intro);refine⟨?_,rfl⟩));rotate_left;rotate_left
             · exact⟨k,_,by omega,rfl,hpa,hP,Wb⟩
             · first|(simp[intOf];done)|(simp[intOf];omega))
end Go.Proofs.YtbiacfkiakddiaaGreat
