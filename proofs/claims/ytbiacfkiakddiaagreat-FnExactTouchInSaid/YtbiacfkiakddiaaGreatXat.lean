/-
 Lemmas: W17,S8,W18a,Y3.
-/
import Derived.Test.YtbiacfkiakddiaaGreatXas
set_option linter.unusedVariables false
set_option linter.unusedSimpArgs false
set_option maxHeartbeats 4000000
namespace Go.Proofs.YtbiacfkiakddiaaGreat
open Go.RowKit Go.Fl
def vt (n:PN):List Int:=[n.a,n.b].take (zz n.kind).2.1
def uw (i:Nat):List Int→List Nat→Option (List Nat)
 | [],ps=>some ps
 | c::cs,ps=>if 0≤c∧c<(i:Int) then uw i cs (ps.set c.toNat (ps.getD c.toNat 0+1)) else none
def j3 (n:PN):Bool:=zcw n.kind n.nums && zs2 n.kind n.a n.b
def kqa:List PN→Nat→List Nat→Option (List Nat)
 | [],_,ps=>some ps
 | n::rest,i,ps=>if j3 n then (match uw i (vt n) ps with|none=>none|some ps'=>kqa rest (i+1) ps') else none
def znp (l:Nat):Option (List Nat)→Bool
 | none=>false
 | some ps=>ps.getD (l-1) 0==0 && !(ps.take (l-1)).any (· != 1)
def xd (ns:List PN):Bool:=decide (1≤ns.length) && decide (ns.length≤16) && znp ns.length (kqa ns 0 (List.replicate ns.length 0))

def zci (ps:List Nat):Array Value:=(ps.map I64).toArray

inductive PhiV (n:PN):FuncId→Array Value→Value→Prop
 | num (k:Int) (v:Value):PhiV n 128 #[.int .i64 k,v] (.bool (zcw n.kind n.nums))

theorem zgh {n:PN} {b o:Nat} {w:World} (hn:NodeIn n b o w) (hl:n.nums.length<10000000) (bp:Option Addr) (cap:Nat) (h:w.cell? ⟨b,o+3,none⟩=some (.slice bp n.nums.length cap)) :
  Calls Tryz.prog 128 #[.int .i64 n.kind,.slice bp n.nums.length cap] w (fun e w'=>e=.returned (.bool (zcw n.kind n.nums))∧Below w.heap.size w w'):=by
 obtain⟨bp',bv,ov,cap',h1,h2,h3⟩:=hn.nums
 rw[h]at h1
 injection h1 with h1
 injection h1 with e1 e2 e3
 subst e1 e3
 exact zh4 n.kind n.nums bp bv ov cap w h2 h3 hl

theorem ub (w:World) (o:Obj):(w.alloc o).heap[w.heap.size]? = some o:=by
 unfold World.alloc
 exact Array.getElem?_push_size
theorem zbm {ps:List Nat} {w:World} {pb:Nat} {T:TypeId} (h:w.heap[pb]? = some (.cells (zci ps) T (0,0))) (i:Nat) (hi:i<ps.length):w.cell? ⟨pb,i,none⟩=some (I64 ps[i]):=by
 simp[World.cell?,h,zci,hi]

theorem zf6 {ps:List Nat} {w:World} {pb:Nat} {T:TypeId} (h:w.heap[pb]? = some (.cells (zci ps) T (0,0))) (i v:Nat) :
  (w.setCell ⟨pb,i,none⟩ (.int .i64 ((v:Int)))).heap[pb]? = some (.cells (zci (ps.set i v)) T (0,0)):=by
 simp only[World.setCell,Array.getElem?_modify,if_true,h,Option.map_some]
 simp[zci,List.map_set]

set_option maxRecDepth 100000 in
theorem zro (n:Nat) (hn:n≤16) (w:World):(Instr.makeSlice 188 (.int .i64 (n:Int)) (.int .i64 (n:Int))).run Tryz.prog w=.ok (.slice (some ⟨w.heap.size,0,none⟩) n n) (w.alloc (.cells (zci (List.replicate n 0)) 3)):=by
 have:n=0∨n=1∨n=2∨n=3∨n=4∨n=5∨n=6∨n=7∨n=8∨n=9∨n=10∨n=11∨n=12∨n=13∨n=14∨n=15∨n=16:=by omega
 rcases this with h|h|h|h|h|h|h|h|h|h|h|h|h|h|h|h|h <;>subst h<;>(first|rfl|(show _=_;kernel_rfl))

set_option maxRecDepth 100000 in
theorem zij (ns:List PN) (hnum:∀ n∈ns,n.nums.length<10000000) (nb no cap:Nat) (bp:Option Addr) (w:World) (hbp:ns ≠ []→bp=some ⟨nb,no,none⟩) (hsh:∀ i (h:i<ns.length),NodeIn ns[i] nb (no+i*4) w) (hlen:ns.length<10000000) :
  Calls Tryz.prog 65 #[.agg #[.slice bp ns.length cap]] w (fun e w'=>e=.returned (.bool (xd ns))∧Below w.heap.size w w'):=by
 by_cases hr:1≤ns.length∧ns.length≤16
 ·have hne:ns ≠ []:=by intro h;rw[h]at hr;simp at hr
  have hb:=hbp hne
  subst hb
  have hr1:(1:Int)≤(ns.length:Int):=by omega
  have hr2:(ns.length:Int)≤16:=by omega
  go_enter Tryz.func65,Tryz.ntmps65
  go_wp2_with (go_at_call 74;refine (zes _ _ _ _).mono ?_;rintro _ w5⟨rfl,rfl⟩)
  rw[zro _ hr.2]
  generalize hZ:zci (List.replicate ns.length 0)=Z
  have W1b:Below w.heap.size w ((w.alloc (.cells #[.slice (some ⟨nb,no,none⟩) ns.length cap] 36)).alloc (.cells Z 3)):=(by repeat' (first|exact zi _ _|refine zd ?_ _|refine Below.alloc ?_ (by simp<;>omega) _|refine zj ?_ (by simp<;>omega) _|refine za ?_ ‹_›))

  have hbox:((w.alloc (.cells #[.slice (some ⟨nb,no,none⟩) ns.length cap] 36)).alloc (.cells Z 3)).cell? ⟨w.heap.size,0,none⟩=some (.slice (some ⟨nb,no,none⟩) ns.length cap):=by simp
  have hpar:=ub (w.alloc (.cells #[.slice (some ⟨nb,no,none⟩) ns.length cap] 36)) (.cells Z 3)
  have hsz:((w.alloc (.cells #[.slice (some ⟨nb,no,none⟩) ns.length cap] 36))).heap.size=w.heap.size+1:=by simp
  rw[hsz]at hpar ⊢
  generalize (w.alloc (.cells #[.slice (some ⟨nb,no,none⟩) ns.length cap] 36)).alloc (.cells Z 3)=W1 at *
  subst hZ
  clear hsz
  go_wp2_with fail
  go_loopw [21] (fun i wr=>∃ (m:Nat) (ps:List Nat),m≤ns.length∧i=.int .i64 (m:Int)∧ps.length=ns.length∧(∀ x∈ps,x≤2*m)∧kqa (ns.drop m) m ps=kqa ns 0 (List.replicate ns.length 0)∧wr.heap[w.heap.size+1]? = some (.cells (zci ps) 3 (0,0))∧Below w.heap.size w wr∧wr.cell? ⟨w.heap.size,0,none⟩=some (.slice (some ⟨nb,no,none⟩) ns.length cap)) (fun i _=>ns.length-(intOf i).toNat)
  case atStart=>exact⟨0,_,by omega,rfl,by simp,by simp,rfl,hpar,W1b,hbox⟩
  case round =>
   obtain⟨m,ps,hm,rfl,hps,hle,hrun,hpar,Wb,hbox⟩:=hrel
   clear W1b
   by_cases hlt:m<ns.length
   ·have hlt':(m:Int)<(ns.length:Int):=by omega
    have h0:(0:Int)≤(m:Int):=by omega
    have hn:=(hsh m hlt).keep Wb
    have hdrop:ns.drop m=ns[m]::ns.drop (m+1):=List.drop_eq_getElem_cons hlt
    rw[hdrop]at hrun
    have hmem:ns[m]∈ns:=List.getElem_mem _
    generalize ns[m]=n at *
    have hK1:=hn.kind
    obtain⟨nbp,-,-,ncap,hK2,-,-⟩:=hn.nums
    have hkept:zc [(⟨nb,no+m*4,none⟩,.int .i64 n.kind),(⟨nb,no+m*4+3,none⟩,.slice nbp n.nums.length ncap)] [] wr:=by
     simp only[zc,ka,kb,zb,kfa,kga]
     exact⟨hK1,hK2⟩
    have hnl:n.nums.length<10000000:=hnum n hmem
    go_wp2_with fail
    refine Qr.wp_below 10 (by kernel_rfl) (by kernel_rfl) (PhiV n) ?_
    repeat (refine Qr.walk_plain rfl fun K hK=>?_;(first|(apply Qr.one_det;(focus (intro w' hw';have HK:=keep hkept hw';simp only[zc,ka,kb,zb,kfa,kga]at HK;go_simp;first|done|rfl)))|(apply Qr.one_call;(focus (intro w' hw';go_simp;first|done|exact⟨rfl,rfl⟩));(focus (intro w' hw';go_at_call 128;refine (zgh (hn.keep hw') hnl _ _ (by have HK:=keep hkept hw';simp only[zc,ka,kb,zb,kfa,kga]at HK;exact HK.2)).mono ?_;rintro _ w2⟨rfl,hb1⟩;exact⟨_,rfl,by constructor<;>assumption,za hw' ‹_›,by assumption⟩));intro v hv;cases hv));go_simp;refine hK _ ?_;clear hK K)
    refine Qr.walk_nil fun w6 hw6=>?_
    have W6b:=za Wb hw6
    have hn6:=hn.keep hw6
    have hbox6:w6.cell? ⟨w.heap.size,0,none⟩=some (.slice (some ⟨nb,no,none⟩) ns.length cap):=by rw[yc hw6 _ (by rw[hbox];rfl)];exact hbox
    have hpar6:w6.heap[w.heap.size+1]? = some (.cells (zci ps) 3 (0,0)):=by
     have:=hw6.block (w.heap.size+1) (by have:=(Array.getElem?_eq_some_iff.1 hpar).1;omega)
     rw[this];exact hpar
    have hbad:j3 n=false→Hid (xd ns=false):=fun h=>by
     unfold Hid
     simp only[xd,← hrun,kqa,h]
     simp[znp]
    clear hK1 hK2 hkept hpar hbox hn hw6 Wb
    cases hnv:zcw n.kind n.nums
    ·have hv:=hbad (by simp[j3,hnv])
     clear hbad
     go_wp2_with fail
     go_ret
     exact⟨by rw[hv.out];rfl,W6b⟩
    have hax:=zow nb (no+m*4) n.kind n.a n.b w6 hn6.kind hn6.a hn6.b
    go_wp2_with fail
    refine hax.mono ?_
    rintro _ w7⟨rfl,hb7⟩
    have W7b:=za W6b hb7
    cases hav:zs2 n.kind n.a n.b
    ·have hv:=hbad (by simp[j3,hav])
     clear hbad
     go_wp2_with fail
     go_ret
     exact⟨by rw[hv.out];rfl,W7b⟩
    go_wp2_with fail
    have hn7:=hn6.keep hb7
    have hchl:=xz nb (no+m*4) n.kind n.a n.b w7 hn7.kind hn7.a hn7.b
    refine hchl.mono ?_
    rintro _ w8⟨g,rfl,hg0,hg1,hgs,hb8⟩
    have W8b:=za W7b hb8
    have hpbs:w.heap.size+1<w6.heap.size:=(Array.getElem?_eq_some_iff.1 hpar6).1
    have hpar8:w8.heap[w.heap.size+1]? = some (.cells (zci ps) 3 (0,0)):=by
     rw[hb8.block _ (by have:=hb7.size;omega),hb7.block _ hpbs];exact hpar6
    have hbox8:w8.cell? ⟨w.heap.size,0,none⟩=some (.slice (some ⟨nb,no,none⟩) ns.length cap):=by
     rw[yc (za hb7 hb8) _ (by rw[hbox6];rfl)];exact hbox6
    have hgp:w.heap.size+1<g:=by have:=hb7.size;omega
    have hkl:(vt n).length=(zz n.kind).2.1:=by
     have:=ur n.kind
     simp only[vt,List.length_take,List.length_cons,List.length_nil]
     omega
    have hnk2:(zz n.kind).2.1≤2:=by have:=ur n.kind;omega
    have hkid:∀ j (h:j<(vt n).length),w8.cell? ⟨g,j,none⟩=some (.int .i64 (vt n)[j]):=fun j hj=>by
     have hj2:j=0∨j=1:=by omega
     rcases hj2 with h|h<;>subst h
     ·simp only[vt,List.getElem_take];exact hg0
     ·simp only[vt,List.getElem_take];exact hg1
    have hno:j3 n=true:=by simp[j3,hnv,hav]
    rw[kqa,if_pos hno]at hrun
    clear hg0 hg1 hchl hn7 hn6 hax hbad hpar6 hbox6 hb7 hb8 W6b W7b hnv hav hno
    generalize (zz n.kind).2.1=nk at *
    go_wp2_with fail
    go_loopw [46] (fun jv wr'=>∃ (j:Nat) (qs:List Nat),j≤nk∧jv=.int .i64 (j:Int)∧qs.length=ns.length∧(∀ x∈qs,x≤2*m+j)∧uw m ((vt n).drop j) qs=uw m (vt n) ps∧wr'.heap[w.heap.size+1]? = some (.cells (zci qs) 3 (0,0))∧Below w.heap.size w wr'∧wr'.cell? ⟨w.heap.size,0,none⟩=some (.slice (some ⟨nb,no,none⟩) ns.length cap)∧(∀ j (h:j<(vt n).length),wr'.cell? ⟨g,j,none⟩=some (.int .i64 (vt n)[j]))) (fun jv _=>nk-(intOf jv).toNat)
    case atStart=>exact⟨0,ps,by omega,rfl,hps,by simpa using hle,rfl,hpar8,W8b,hbox8,hkid⟩
    case round =>
     obtain⟨j,qs,hj,rfl,hqs,hqle,hadd,hparj,Wj,hboxj,hkidj⟩:=hrel
     clear hpar8 hbox8 hkid W8b hle hps
     by_cases hjk:j<nk
     ·have hjl:j<(vt n).length:=by omega
      have hcell:=hkidj j hjl
      have hdj:(vt n).drop j=(vt n)[j]::(vt n).drop (j+1):=List.drop_eq_getElem_cons hjl
      rw[hdj,uw]at hadd
      have hjk':(j:Int)<(nk:Int):=by omega
      have hj0:(0:Int)≤(j:Int):=by omega
      generalize (vt n)[j]=c at *
      by_cases hc:0≤c∧c<(m:Int)
      ·rw[if_pos hc]at hadd
       obtain⟨hc0,hcm⟩:=hc
       obtain⟨cn',rfl⟩:=Int.eq_ofNat_of_zero_le hc0
       have hcl:cn'<qs.length:=by omega
       have hclI:(cn':Int)<(ns.length:Int):=by omega
       have hpc:=zbm hparj cn' hcl
       have hcm1:(cn':Int)≤(m:Int)-1:=by omega
       have hfz:wr.frozen? ⟨w.heap.size+1,cn',none⟩=false:=by simp[World.frozen?,hparj]
       have hq1:qs[cn']≤34:=by have:=hqle _ (List.getElem_mem hcl);omega
       rw[Int.toNat_natCast,List.getD_eq_getElem?_getD,List.getElem?_eq_getElem hcl,Option.getD_some]at hadd
       generalize hqv:qs[cn']=qv at *
       have hkd:Hid (∀ j (h:j<(vt n).length),wr.cell? ⟨g,j,none⟩=some (.int .i64 (vt n)[j])):=hkidj
       clear hkidj
       go_wp2_with (go_at_call 74;refine (zes _ _ _ _).mono ?_;rintro _ w5⟨rfl,rfl⟩)
       have hb2:=Wj.setCell (p:=⟨w.heap.size+1,cn',none⟩) (by show w.heap.size≤w.heap.size+1;omega) (Value.int .i64 ((qv:Int)+1))
       refine⟨⟨j+1,qs.set cn' (qv+1),by omega,by simp,by simp[hqs],fun x hx=>?_,hadd,?_,hb2,?_,fun j' h'=>?_⟩,by simp[intOf];omega⟩
       ·rcases List.mem_or_eq_of_mem_set hx with h|h
        ·have:=hqle x h;omega
        ·have:=hqle _ (List.getElem_mem hcl);omega
       ·exact zf6 hparj cn' (qv+1)
       ·rw[World.cell?_setCell_far _ _ _ _ (by show w.heap.size+1 ≠ w.heap.size;omega)];exact hboxj
       ·rw[World.cell?_setCell_far _ _ _ _ (by show w.heap.size+1 ≠ g;omega)];exact hkd.out j' h'
      ·rw[if_neg hc]at hadd
       have hv:Hid (xd ns=false):=by
        unfold Hid
        rw[← hadd]at hrun
        simp only[xd,← hrun]
        simp[znp]
       have hin:(decide ((0:Int)≤c) && decide (c≤(m:Int)-1))=false:=by
        simp only[Bool.and_eq_false_iff,decide_eq_false_iff_not]
        omega
       clear hkidj hdj
       go_wp2_with (go_at_call 74;refine (zes _ _ _ _).mono ?_;rintro _ w5⟨rfl,rfl⟩;rw[hin])
       go_ret
       exact⟨by rw[hv.out];rfl,Wj⟩
     ·obtain rfl:j=nk:=by omega
      have hdr:(vt n).drop j=[]:=List.drop_eq_nil_of_le (by omega)
      rw[hdr,uw]at hadd
      rw[← hadd]at hrun
      simp only at hrun
      clear hkidj hdr hadd
      go_wp2_with fail
      exact⟨⟨m+1,qs,by omega,by simp,hqs,fun x hx=>by have:=hqle x hx;omega,hrun,hparj,Wj,hboxj⟩,by simp[intOf];omega⟩
   ·obtain rfl:m=ns.length:=by omega
    have hp1:=zbm hpar (ns.length-1) (by omega)
    have he:((ns.length:Int)-1).toNat=ns.length-1:=by omega
    have hl0:(0:Int)≤(ns.length:Int)-1:=by omega
    have hl1:(ns.length:Int)-1<(ns.length:Int):=by omega
    have hval:Hid (xd ns=(ps[ns.length-1]==0 && !(ps.take (ns.length-1)).any (· != 1))):=by
     unfold Hid
     rw[List.drop_length]at hrun
     have hd:ps.getD (ns.length-1) 0=ps[ns.length-1]:=by
      rw[List.getD_eq_getElem?_getD,List.getElem?_eq_getElem (by omega),Option.getD_some]
     simp only[xd,← hrun,kqa,znp,hd]
     simp[hr.1,hr.2]
    have hcon:=zj9 (· != 1) (ps.take (ns.length-1)) (some ⟨w.heap.size+1,0,none⟩) (w.heap.size+1) 0 ns.length wr (fun _=>rfl) (fun i hi=>by
     have hi':i<ps.length:=by rw[List.length_take]at hi;omega
     rw[List.getElem_take,Nat.zero_add]
     exact zbm hpar i hi') (by rw[List.length_take];omega) (fun x w' _=>zol x w')
    have htl:(ps.take (ns.length-1)).length=ns.length-1:=by rw[List.length_take];omega
    rw[htl]at hcon
    generalize (ps.take (ns.length-1)).any (· != 1)=anyb at hcon hval
    clear htl hrun hpar hsh hnum
    generalize ps[ns.length-1]=pl at *
    by_cases hz:pl=0
    ·subst hz
     go_wp2_with fail
     refine hcon.mono ?_
     rintro _ w5⟨rfl,hb5⟩
     go_wp2_with fail
     go_ret
     exact⟨by rw[hval.out];simp,za Wb hb5⟩
    ·have hz':((pl:Int)==0)=false:=by simp;omega
     have hz2:(pl==0)=false:=by simpa using hz
     have hz3:(pl:Int) ≠ 0:=by omega
     clear hcon
     go_wp2_with fail
     go_ret
     exact⟨by rw[hval.out,hz2];simp,Wb⟩
 ·have hv:xd ns=false:=by
   simp only[xd,Bool.and_eq_false_iff,decide_eq_false_iff_not]
   omega
  rw[hv]
  have hr':(decide ((1:Int)≤(ns.length:Int)) && decide ((ns.length:Int)≤16))=false:=by
   simp only[Bool.and_eq_false_iff,decide_eq_false_iff_not]
   omega
  clear hbp hsh hnum hv
  go_enter Tryz.func65,Tryz.ntmps65
  go_wp2_with (go_at_call 74;refine (zes _ _ _ _).mono ?_;rintro _ w5⟨rfl,rfl⟩;rw[hr'])
  go_ret
  exact⟨rfl,(by repeat' (first|exact zi _ _|refine zd ?_ _|refine Below.alloc ?_ (by simp<;>omega) _|refine zj ?_ (by simp<;>omega) _|refine za ?_ ‹_›))⟩
def zf0 (us:List Nat) (c:Int):List Nat:=us.set c.toNat (us.getD c.toNat 0+1)
def qp (us:List Nat) (n:PN):List Nat:=if inI n.kind 0 4 then us else zf0 us n.a
def zb9 (us:List Nat) (n:PN):List Nat:=if inI n.kind 5 8 then zf0 us n.b else us
def zas:List PN→Nat→List Nat→Option (List Nat)
 | [],_,us=>some us
 | n::rest,i,us=>if qj n i then zas rest (i+1) (zb9 (qp us n) n) else none
def zrh (l:Nat):Option (List Nat)→Bool
 | none=>false
 | some us=>!(us.take (l-1)).any (· != 1)
def v6 (ns:List PN):Bool:=decide (1≤ns.length) && decide (ns.length≤16) && zrh ns.length (zas ns 0 (List.replicate ns.length 0))

theorem zls (us:List Nat) (c:Int):(zf0 us c).length=us.length:=by unfold zf0;simp
theorem zap (us:List Nat) (n:PN):(qp us n).length=us.length:=by unfold qp;split;rfl;exact zls _ _
theorem zgl (us:List Nat) (n:PN):(zb9 us n).length=us.length:=by unfold zb9;split;exact zls _ _;rfl
theorem zqb {us:List Nat} {c:Int} {k:Nat} (h:∀ x∈us,x≤k):∀ x∈zf0 us c,x≤k+1:=by
 intro x hx
 unfold zf0 at hx
 rcases List.mem_or_eq_of_mem_set hx with h'|h'
 ·have:=h x h';omega
 ·have:us.getD c.toNat 0≤k:=by
   rw[List.getD_eq_getElem?_getD]
   cases hg:us[c.toNat]? with
   | none=>simp
   | some y=>exact h y (List.mem_of_getElem? hg)
  omega
theorem zv8 {us:List Nat} {n:PN} {k:Nat} (h:∀ x∈us,x≤k):∀ x∈qp us n,x≤k+1:=by
 intro x hx
 unfold qp at hx
 split at hx
 ·have:=h x hx;omega
 ·exact zqb h x hx
theorem zv0 {us:List Nat} {n:PN} {k:Nat} (h:∀ x∈us,x≤k):∀ x∈zb9 us n,x≤k+1:=by
 intro x hx
 unfold zb9 at hx
 split at hx
 ·exact zqb h x hx
 ·have:=h x hx;omega

theorem zdn {n:PN} {i:Int} (h:qj n i=true):(inI n.kind 0 4=false→0≤n.a∧n.a<i)∧(inI n.kind 5 8=true→0≤n.b∧n.b<i):=by
 unfold qj at h
 simp only[Bool.and_eq_true]at h
 refine⟨fun h1=>?_,fun h1=>?_⟩
 ·rw[h1]at h
  simp only[Bool.false_eq_true,if_false,Bool.and_eq_true]at h
  have:=h.2.1
  simp only[inI,Bool.and_eq_true,decide_eq_true_eq]at this
  omega
 ·have h0:inI n.kind 0 4=false:=by
   simp only[inI,Bool.and_eq_true,decide_eq_true_eq,Bool.and_eq_false_iff,decide_eq_false_iff_not]at h1 ⊢
   omega
  rw[h0,h1]at h
  simp only[Bool.false_eq_true,if_false,if_true,Bool.and_eq_true]at h
  have:=h.2.2
  simp only[inI,Bool.and_eq_true,decide_eq_true_eq]at this
  omega

set_option maxRecDepth 100000 in
theorem zkq (n:Nat) (hn:n≤16) (w:World):(Instr.makeSlice 61 (.int .i64 (n:Int)) (.int .i64 (n:Int))).run Tryz.prog w=.ok (.slice (some ⟨w.heap.size,0,none⟩) n n) (w.alloc (.cells (zci (List.replicate n 0)) 2)):=by
 have:n=0∨n=1∨n=2∨n=3∨n=4∨n=5∨n=6∨n=7∨n=8∨n=9∨n=10∨n=11∨n=12∨n=13∨n=14∨n=15∨n=16:=by omega
 rcases this with h|h|h|h|h|h|h|h|h|h|h|h|h|h|h|h|h <;>subst h<;>(first|rfl|(show _=_;kernel_rfl))

set_option maxRecDepth 100000 in
theorem zmk (ns:List PN) (hnum:∀ n∈ns,n.nums.length<10000000) (sb so nb no cap:Nat) (bp:Option Addr) (w:World) (hS:w.cell? ⟨sb,so,none⟩=some (.slice bp ns.length cap)) (hbp:ns ≠ []→bp=some ⟨nb,no,none⟩) (hsh:∀ i (h:i<ns.length),NodeIn ns[i] nb (no+i*4) w) (hlen:ns.length<10000000) :
  Calls Tryz.prog 60 #[.pointer (some ⟨sb,so,none⟩)] w (fun e w'=>e=.returned (.bool (v6 ns))∧Below w.heap.size w w'):=by
 have hsb:sb<w.heap.size:=zg (a:=⟨sb,so,none⟩) (by rw[hS];rfl)
 by_cases hr:1≤ns.length∧ns.length≤16
 ·have hne:ns ≠ []:=by intro h;rw[h]at hr;simp at hr
  have hb:=hbp hne
  subst hb
  have hr1:(1:Int)≤(ns.length:Int):=by omega
  have hr2:(ns.length:Int)≤16:=by omega
  go_enter Tryz.func60,Tryz.ntmps60
  go_wp2_with fail
  rw[zkq _ hr.2]
  generalize hZ:zci (List.replicate ns.length 0)=Z
  have W1b:Below w.heap.size w (w.alloc (.cells Z 2)):=(by repeat' (first|exact zi _ _|refine zd ?_ _|refine Below.alloc ?_ (by simp<;>omega) _|refine zj ?_ (by simp<;>omega) _|refine za ?_ ‹_›))

  have hbox:(w.alloc (.cells Z 2)).cell? ⟨sb,so,none⟩=some (.slice (some ⟨nb,no,none⟩) ns.length cap):=by rw[yc W1b _ (by rw[hS];rfl)];exact hS
  have hpar:=ub w (.cells Z 2)
  generalize w.alloc (.cells Z 2)=W1 at *
  subst hZ
  have hS0:=Lib.hid hS
  go_wp2_with fail
  go_loopw [5] (fun i wr=>∃ (m:Nat) (us:List Nat),m≤ns.length∧i=.int .i64 (m:Int)∧us.length=ns.length∧(∀ x∈us,x≤2*m)∧zas (ns.drop m) m us=zas ns 0 (List.replicate ns.length 0)∧wr.heap[w.heap.size]? = some (.cells (zci us) 2 (0,0))∧Below w.heap.size w wr) (fun i _=>ns.length-(intOf i).toNat)
  case atStart=>exact⟨0,_,by omega,rfl,by simp,by simp,rfl,hpar,W1b⟩
  case round =>
   obtain⟨m,us,hm,rfl,hus,hle,hrun,hpar,Wb⟩:=hrel
   clear W1b hbox hS
   by_cases hlt:m<ns.length
   ·have hlt':(m:Int)<(ns.length:Int):=by omega
    have h0:(0:Int)≤(m:Int):=by omega
    have hn0:=hsh m hlt
    have hnb:nb<w.heap.size:=zg (a:=⟨nb,no+m*4,none⟩) (by rw[hn0.kind];rfl)
    have hn:=hn0.keep Wb
    have hSr:wr.cell? ⟨sb,so,none⟩=some (.slice (some ⟨nb,no,none⟩) ns.length cap):=by rw[yc Wb _ (by rw[hS0.out];rfl)];exact hS0.out
    have hdrop:ns.drop m=ns[m]::ns.drop (m+1):=List.drop_eq_getElem_cons hlt
    rw[hdrop,zas]at hrun
    have hnl:ns[m].nums.length<10000000:=hnum _ (List.getElem_mem _)
    clear hn0
    generalize ns[m]=n at *
    have hbad:qj n m=false→Hid (v6 ns=false):=fun h=>by
     unfold Hid
     rw[if_neg (by rw[h];decide)]at hrun
     simp only[v6,← hrun]
     simp[zrh]
    go_wp2_with fail
    refine (zpa hn hnl m (by omega)).mono ?_
    rintro _ w2⟨rfl,hb2⟩
    have W2b:=za Wb hb2
    have hn2:=hn.keep hb2
    have hpar2:w2.heap[w.heap.size]? = some (.cells (zci us) 2 (0,0)):=by
     have:=hb2.block (w.heap.size) (by have:=(Array.getElem?_eq_some_iff.1 hpar).1;omega)
     rw[this];exact hpar
    cases hns:qj n m
    ·have hv:=hbad hns
     clear hbad
     go_wp2_with fail
     go_ret
     exact⟨by rw[hv.out];rfl,W2b⟩
    ·rw[if_pos hns]at hrun
     obtain⟨hka,hkb⟩:=zdn hns
     have hleA:=zv8 (n:=n) hle
     have hleB:=zv0 (n:=n) hleA
     have hfz:∀ o,w2.frozen? ⟨w.heap.size,o,none⟩=false:=fun o=>by simp[World.frozen?,hpar2]
     have hk2:=hn2.kind
     have ha2:=hn2.a
     have hb2':=hn2.b
     clear hbad hns hSr hn hb2 hpar Wb hn2 hdrop
     have hleaf:∀ (w:World),Calls Tryz.prog 119 #[.int .i64 n.kind] w (fun e w'=>e=.returned (.bool (inI n.kind 0 4))∧w=w'):=fun w=>kp _ w
     have htwo:∀ (w:World),Calls Tryz.prog 120 #[.int .i64 n.kind] w (fun e w'=>e=.returned (.bool (inI n.kind 5 8))∧w=w'):=fun w=>zah _ w
     cases hlf:inI n.kind 0 4
     ·obtain⟨ca,hca⟩:=Int.eq_ofNat_of_zero_le (hka hlf).1
      have hcl:ca<us.length:=by have:=(hka hlf).2;omega
      have hua:qp us n=us.set ca (us[ca]+1):=by
       unfold qp zf0
       rw[hlf,hca]
       simp[List.getElem?_eq_getElem hcl]
      have hv1:us[ca]≤2*m:=hle _ (List.getElem_mem hcl)
      have hpa:=zbm hpar2 ca hcl
      have hset:=zf6 hpar2 ca (us[ca]+1)
      rw[← hua]at hset
      have hclI:(ca:Int)<(ns.length:Int):=by omega
      rw[hca]at ha2
      have hkB:=hkb
      clear hkb hka
      have huaH:=Lib.hid hua
      clear hua
      generalize us[ca]=va at *
      have hva:(va:Int)<1000:=by omega
      have hfar:∀ o v,(w2.setCell ⟨w.heap.size,ca,none⟩ v).cell? ⟨nb,o,none⟩=w2.cell? ⟨nb,o,none⟩:=fun o v=>World.cell?_setCell_far _ _ _ _ (by show w.heap.size ≠ nb;omega)
      have hset':(w2.setCell ⟨w.heap.size,ca,none⟩ (.int .i64 ((va:Int)+1))).heap[w.heap.size]? = some (.cells (zci (qp us n)) 2 (0,0)):=hset
      have hfz2:∀ o,(w2.setCell ⟨w.heap.size,ca,none⟩ (.int .i64 ((va:Int)+1))).frozen? ⟨w.heap.size,o,none⟩=false:=fun o=>by simp[World.frozen?,hset']
      have hb3:=W2b.setCell (p:=⟨w.heap.size,ca,none⟩) (Nat.le_refl _) (Value.int .i64 ((va:Int)+1))
      cases htw:inI n.kind 5 8
      ·have hub:zb9 (qp us n) n=qp us n:=by unfold zb9;rw[htw];rfl
       rw[hub]at hrun hleB
       have hrunH:=Lib.hid hrun
       have hsetH:=Lib.hid hset'
       have hleH:=Lib.hid hleA
       clear hrun hset hset' hleA hleB hub hle hkB hpar2
       go_wp2_with (first
        | (go_at_call 119;refine (hleaf _).mono ?_;rintro _ w4⟨rfl,rfl⟩;rw[hlf])
        | (go_at_call 120;refine (htwo _).mono ?_;rintro _ w4⟨rfl,rfl⟩;rw[htw]))
       exact⟨⟨m+1,qp us n,by omega,by simp,by rw[zap];exact hus,fun x hx=>by have:=hleH.out x hx;omega,hrunH.out,hsetH.out,hb3⟩,by simp[intOf];omega⟩
      ·obtain⟨cb,hcb⟩:=Int.eq_ofNat_of_zero_le (hkB htw).1
       have hcl2:cb<(qp us n).length:=by rw[zap];have:=(hkB htw).2;omega
       have hub:zb9 (qp us n) n=(qp us n).set cb ((qp us n)[cb]+1):=by
        unfold zb9 zf0
        rw[htw,hcb]
        simp[List.getElem?_eq_getElem hcl2]
       have hv2:(qp us n)[cb]≤2*m+1:=hleA _ (List.getElem_mem hcl2)
       have hpb:=zbm hset' cb hcl2
       have hset2:=zf6 hset' cb ((qp us n)[cb]+1)
       rw[← hub]at hset2
       have hclI2:(cb:Int)<(ns.length:Int):=by rw[zap]at hcl2;omega
       rw[hcb]at hb2'
       generalize (qp us n)[cb]=vb at *
       have hvb:(vb:Int)<1000:=by omega
       have hset2':((w2.setCell ⟨w.heap.size,ca,none⟩ (.int .i64 ((va:Int)+1))).setCell ⟨w.heap.size,cb,none⟩ (.int .i64 ((vb:Int)+1))).heap[w.heap.size]? = some (.cells (zci (zb9 (qp us n) n)) 2 (0,0)):=hset2
       have hb4:=hb3.setCell (p:=⟨w.heap.size,cb,none⟩) (Nat.le_refl _) (Value.int .i64 ((vb:Int)+1))
       have hrunH:=Lib.hid hrun
       have hsetH:=Lib.hid hset2'
       have hleH:=Lib.hid hleB
       have hlenH:Hid ((zb9 (qp us n) n).length=ns.length):=by unfold Hid;rw[zgl,zap];exact hus
       clear hrun hset hset' hset2 hset2' hleA hleB hub hle hkB hpar2 hcl2 hcl hca hcb huaH
       go_wp2_with (first
        | (go_at_call 119;refine (hleaf _).mono ?_;rintro _ w4⟨rfl,rfl⟩;rw[hlf])
        | (go_at_call 120;refine (htwo _).mono ?_;rintro _ w4⟨rfl,rfl⟩;rw[htw]))
       exact⟨⟨m+1,zb9 (qp us n) n,by omega,by simp,hlenH.out,fun x hx=>by have:=hleH.out x hx;omega,hrunH.out,hsetH.out,hb4⟩,by simp[intOf];omega⟩
     ·have htw:inI n.kind 5 8=false:=by
       simp only[inI,Bool.and_eq_true,decide_eq_true_eq,Bool.and_eq_false_iff,decide_eq_false_iff_not]at hlf ⊢
       omega
      have hua:qp us n=us:=by unfold qp;rw[hlf];rfl
      have hub:zb9 us n=us:=by unfold zb9;rw[htw];rfl
      rw[hua,hub]at hrun
      have hrunH:=Lib.hid hrun
      have hsetH:=Lib.hid hpar2
      have hleH:=Lib.hid hle
      clear hrun hpar2 hleA hleB hub hua hle hka hkb hfz
      go_wp2_with (first
       | (go_at_call 119;refine (hleaf _).mono ?_;rintro _ w4⟨rfl,rfl⟩;rw[hlf])
       | (go_at_call 120;refine (htwo _).mono ?_;rintro _ w4⟨rfl,rfl⟩;rw[htw]))
      exact⟨⟨m+1,us,by omega,by simp,hus,fun x hx=>by have:=hleH.out x hx;omega,hrunH.out,hsetH.out,W2b⟩,by simp[intOf];omega⟩
   ·obtain rfl:m=ns.length:=by omega
    have hval:Hid (v6 ns = !(us.take (ns.length-1)).any (· != 1)):=by
     unfold Hid
     rw[List.drop_length]at hrun
     simp only[v6,← hrun,zas,zrh]
     simp[hr.1,hr.2]
    clear hrun hsh hnum hle
    go_wp2_with fail
    go_loopw [7] (fun i wr'=>∃ (k:Nat),k≤ns.length-1∧i=.int .i64 (k:Int)∧(us.take k).any (· != 1)=false∧wr'=wr) (fun i _=>ns.length-(intOf i).toNat)
    case atStart=>exact⟨0,by omega,rfl,rfl,rfl⟩
    case round =>
     obtain⟨k,hk,rfl,hany,rfl⟩:=hrel
     by_cases hlt2:k<ns.length-1
     ·have hlt2':(k:Int)<(ns.length:Int)-1:=by omega
      have hk0:(0:Int)≤(k:Int):=by omega
      have hkl:(k:Int)<(ns.length:Int):=by omega
      have hku:k<us.length:=by omega
      have hpk:=zbm hpar k hku
      have hyes:Hid (us[k] ≠ 1→(us.take (ns.length-1)).any (· != 1)=true):=fun h=>List.any_eq_true.2 ⟨us[k],List.mem_take_iff_getElem.2 ⟨k,by omega,rfl⟩,by simpa using h⟩
      have hno:Hid (us[k]=1→(us.take (k+1)).any (· != 1)=false):=fun h=>j8 _ us k hku hany (by rw[h];rfl)
      clear hpar hany
      generalize us[k]=v at *
      by_cases hv1:v=1
      ·subst hv1
       go_wp2_with fail
       exact⟨⟨k+1,by omega,by simp,hno.out rfl,by first|rfl|trivial⟩,by simp[intOf];omega⟩
      ·have hv2:((v:Int) != 1)=true:=by simp;omega
       have hv3:(v:Int) ≠ 1:=by omega
       go_wp2_with fail
       go_ret
       exact⟨by rw[hval.out,hyes.out hv1];rfl,Wb⟩
     ·obtain rfl:k=ns.length-1:=by omega
      have hcast:((ns.length-1:Nat):Int)=(ns.length:Int)-1:=by omega
      have hH:=Lib.hid hany
      clear hany hpar
      rw[hcast]
      go_wp2_with fail
      go_ret
      exact⟨by rw[hval.out,hH.out];rfl,Wb⟩
 ·have hv:v6 ns=false:=by
   simp only[v6,Bool.and_eq_false_iff,decide_eq_false_iff_not]
   omega
  rw[hv]
  clear hbp hsh hnum hv
  by_cases h1:ns.length<1
  ·have h1':(ns.length:Int)<1:=by omega
   go_enter Tryz.func60,Tryz.ntmps60
   go_wp2_with fail
   go_ret
   exact⟨rfl,(by repeat' (first|exact zi _ _|refine zd ?_ _|refine Below.alloc ?_ (by simp<;>omega) _|refine zj ?_ (by simp<;>omega) _|refine za ?_ ‹_›))⟩
  ·have h1':(1:Int)≤(ns.length:Int):=by omega
   have h2':(16:Int)<(ns.length:Int):=by omega
   go_enter Tryz.func60,Tryz.ntmps60
   go_wp2_with fail
   go_ret
   exact⟨rfl,(by repeat' (first|exact zi _ _|refine zd ?_ _|refine Below.alloc ?_ (by simp<;>omega) _|refine zj ?_ (by simp<;>omega) _|refine za ?_ ‹_›))⟩
theorem zeg (i:Nat):∀ (cs:List Int) (ps r:List Nat),uw i cs ps=some r→∀ c∈cs,0≤c∧c<(i:Int)
 | [],_,_,_,c,hc=>by cases hc
 | c::cs,ps,r,h,x,hx=>by
  rw[uw]at h
  by_cases hc:0≤c∧c<(i:Int)
  ·rw[if_pos hc]at h
   rcases List.mem_cons.1 hx with e|e
   ·rw[e];exact hc
   ·exact zeg i cs _ r h x e
  ·rw[if_neg hc]at h;cases h

theorem za8:∀ (l:List PN) (i:Nat) (ps r:List Nat),kqa l i ps=some r→∀ j (h:j<l.length),j3 l[j]=true∧∀ c∈vt l[j],0≤c∧c<((i+j:Nat):Int)
 | [],_,_,_,_,j,h=>by simp at h
 | n::rest,i,ps,r,h,j,hj=>by
  rw[kqa]at h
  by_cases hn:j3 n=true
  ·rw[if_pos hn]at h
   cases ha:uw i (vt n) ps with
   | none=>rw[ha]at h;cases h
   | some ps' =>
    rw[ha]at h
    cases j with
    | zero=>exact⟨hn,fun c hc=>zeg i _ _ _ ha c hc⟩
    | succ j =>
     have:=za8 rest (i+1) ps' r h j (by simpa using hj)
     refine⟨this.1,fun c hc=>?_⟩
     have:=this.2 c hc
     omega
  ·rw[if_neg hn]at h;cases h

theorem zw7 {n:PN} (h:j3 n=true):n.ok:=by
 simp only[j3,zcw,zs2,qe,Bool.and_eq_true,Bool.or_eq_true,decide_eq_true_eq]at h
 obtain⟨⟨⟨⟨hk,hl⟩,_⟩,_⟩,_,ha⟩:=h
 refine⟨hk,hl,?_⟩
 rcases ha with (h|h)|h
 ·exact Or.inl h
 ·exact Or.inr (Or.inl h)
 ·exact Or.inr (Or.inr h)

theorem zcf {ns:List PN} (h:xd ns=true):(1≤ns.length∧ns.length≤16)∧qx ns:=by
 simp only[xd,Bool.and_eq_true,decide_eq_true_eq]at h
 obtain⟨hl,hr⟩:=h
 refine⟨hl,?_⟩
 cases hc:kqa ns 0 (List.replicate ns.length 0) with
 | none=>rw[hc]at hr;cases hr
 | some r =>
  intro i hi
  obtain⟨h1,h2⟩:=za8 ns 0 _ r hc i hi
  have hk:=ur ns[i].kind
  refine⟨zw7 h1,fun hne=>?_,fun h2k=>?_⟩
  ·have:=h2 ns[i].a (by
    unfold vt
    rcases hk with h|h|h
    ·exact absurd h hne
    ·rw[h];simp
    ·rw[h];simp)
   omega
  ·have:=h2 ns[i].b (by unfold vt;rw[h2k];simp)
   omega

end Go.Proofs.YtbiacfkiakddiaaGreat
