/-
 Lemmas: W13,C1,L1,S7,W14,W16.
-/
import Derived.Test.YtbiacfkiakddiaaGreatXam
import Derived.Test.YtbiacfkiakddiaaGreatXar
set_option linter.unusedVariables false
set_option linter.unusedSimpArgs false
set_option maxHeartbeats 4000000
namespace Go.Proofs.YtbiacfkiakddiaaGreat
open Go.RowKit Go.Fl
theorem zrz {n:PN} {b o:Nat} {w:World} (hn:NodeIn n b o w) (hok:n.ok) (hc:(zz n.kind).2.1=1) (x y z:Nat) :
  Calls Tryz.prog 235 #[.pointer (some ⟨b,o,none⟩),V3 x y z] w (ut (kn n (cn .f32 x,cn .f32 y,cn .f32 z)).1 (kn n (cn .f32 x,cn .f32 y,cn .f32 z)).2.1 (kn n (cn .f32 x,cn .f32 y,cn .f32 z)).2.2 w):=by
 by_cases h15:n.kind=15
 ·obtain⟨bp,bv,ov,cap,h1,h2,h3⟩:=hn.nums
  have hk:=hn.kind
  have hB:=hn.b
  have hax:=hok.axis
  obtain⟨k,na,nb,nums⟩:=n
  simp only at *
  subst h15
  have hb0:nb=0:=by
   rcases hax with h|h|⟨h,_⟩
   ·exact absurd h (by decide)
   ·exact h
   ·exact absurd h (by decide)
  subst hb0
  exact znb (kof (by simp only[List.forall_mem_cons,List.not_mem_nil,false_implies,implies_true,and_true];exact⟨hk,hB,h1⟩))
 by_cases h16:n.kind=16
 ·obtain⟨bp,bv,ov,cap,h1,h2,h3⟩:=hn.nums
  have hk:=hn.kind
  have hB:=hn.b
  have hax:=hok.axis
  obtain⟨k,na,nb,nums⟩:=n
  simp only at *
  subst h16
  have hb0:nb=0:=by
   rcases hax with h|h|⟨h,_⟩
   ·exact absurd h (by decide)
   ·exact h
   ·exact absurd h (by decide)
  subst hb0
  exact zlw (kof (by simp only[List.forall_mem_cons,List.not_mem_nil,false_implies,implies_true,and_true];exact⟨hk,hB,h1⟩))
 exact zpn hn hok hc h15 h16 x y z

structure ShapeIn (ns:List PN) (sb so nb no cap:Nat) (w:World):Prop where
 list:w.cell? ⟨sb,so,none⟩=some (.slice (some ⟨nb,no,none⟩) ns.length cap)
 node:∀ i (h:i<ns.length),NodeIn ns[i] nb (no+i*4) w

theorem ShapeIn.keep {ns:List PN} {sb so nb no cap:Nat} {w w':World} (h:ShapeIn ns sb so nb no cap w) (hb:Below w.heap.size w w'):ShapeIn ns sb so nb no cap w' :=
 ⟨by rw[yc hb _ (by rw[h.list];rfl)];exact h.list,fun i hi=>(h.node i hi).keep hb⟩

def qx (ns:List PN):Prop:=∀ i (h:i<ns.length),ns[i].ok∧((zz ns[i].kind).2.1 ≠ 0→0≤ns[i].a∧ns[i].a<i)∧((zz ns[i].kind).2.1=2→0≤ns[i].b∧ns[i].b<i)

def qz (ns:List PN):Nat→Nat→Nat × Nat × Nat→Nat
 | 0,_,_=>0
 | f+1,i,p =>
  match ns[i]? with
  | none=>0
  | some n =>
   match (zz n.kind).2.1 with
   | 0=>zim n p.1 p.2.1 p.2.2
   | 1=>zoz n (qz ns f n.a.toNat (kn n p)) 0
   | _=>zoz n (qz ns f n.a.toNat p) (qz ns f n.b.toNat p)

inductive PhiD (ns:List PN) (f:Nat) (n:PN):FuncId→Array Value→Value→Prop
 | dist (sa:Addr) (i:Int) (x y z r:Nat) (h:cn .f32 r=qz ns f i.toNat (cn .f32 x,cn .f32 y,cn .f32 z)):PhiD ns f n 148 #[.pointer (some sa),.int .i64 i,V3 x y z] (F1 r)
 | point (pa:Addr) (x y z a b c:Nat) (h1:cn .f32 a=(kn n (cn .f32 x,cn .f32 y,cn .f32 z)).1) (h2:cn .f32 b=(kn n (cn .f32 x,cn .f32 y,cn .f32 z)).2.1) (h3:cn .f32 c=(kn n (cn .f32 x,cn .f32 y,cn .f32 z)).2.2):PhiD ns f n 235 #[.pointer (some pa),V3 x y z] (V3 a b c)
 | mix (pa:Addr) (x y r:Nat) (h:cn .f32 r=zoz n (cn .f32 x) (cn .f32 y)):PhiD ns f n 234 #[.pointer (some pa),F1 x,F1 y] (F1 r)

set_option maxRecDepth 100000 in
theorem zu0 (ns:List PN) (hok:qx ns) (sb so nb no cap:Nat):∀ (f i x y z:Nat) (w:World),i<f→i<ns.length→ShapeIn ns sb so nb no cap w →
  Calls Tryz.prog 148 #[.pointer (some ⟨sb,so,none⟩),.int .i64 i,V3 x y z] w (Ret .f32 (qz ns f i (cn .f32 x,cn .f32 y,cn .f32 z)) w):=by
 intro f
 induction f with
 | zero=>intro i _ _ _ _ h;omega
 | succ f ih =>
  intro i x y z w hif hin hsh
  have hlist:=hsh.list
  have hn:=hsh.node i hin
  obtain⟨hokn,hca,hcb⟩:=hok i hin
  have hget:ns[i]? = some ns[i]:=List.getElem?_eq_getElem hin
  have hi0:(0:Int)≤(i:Int):=by omega
  have hin':(i:Int)<(ns.length:Int):=by omega
  generalize ns[i]=n at *
  have hkind:=hn.kind
  have hA:=hn.a
  have hB:=hn.b
  have hnb:nb<w.heap.size:=zg (a:=⟨nb,no+i*4,none⟩) (by rw[hkind];rfl)
  have hsb:sb<w.heap.size:=zg (a:=⟨sb,so,none⟩) (by rw[hlist];rfl)
  go_enter Tryz.func148,Tryz.ntmps148
  go_wp2_with fail
  have W1b:Below w.heap.size w (w.alloc (.cells #[F1 x,F1 y,F1 z] 38)):=(by repeat' (first|exact zi _ _|refine zd ?_ _|refine Below.alloc ?_ (by simp<;>omega) _|refine zj ?_ (by simp<;>omega) _|refine za ?_ ‹_›))

  have hbox:zc [(⟨w.heap.size,0,none⟩,F1 x),(⟨w.heap.size,1,none⟩,F1 y),(⟨w.heap.size,2,none⟩,F1 z)] [] (w.alloc (.cells #[F1 x,F1 y,F1 z] 38)):=by
   simp only[zc,ka,kb,zb,kfa,kga]
   simp
  generalize w.alloc (.cells #[F1 x,F1 y,F1 z] 38)=W1 at W1b hbox ⊢
  have hn1:=hn.keep W1b
  refine (xz nb (no+i*4) n.kind n.a n.b W1 hn1.kind hn1.a hn1.b).mono ?_
  rintro _ w2⟨g,rfl,-,-,-,hb2⟩
  have W2b:=za W1b hb2
  have hn2:=hn.keep W2b
  have hsh2:=hsh.keep W2b
  have hbox:=keep hbox hb2
  have hK:=hbox
  have hkind:=hn2.kind
  have hA:=hn2.a
  have hB:=hn2.b
  simp only[zc,ka,kb,zb,kfa,kga]at hK
  clear hb2 hn1 W1b hlist
  have hc3:(zz n.kind).2.1=0∨(zz n.kind).2.1=1∨(zz n.kind).2.1=2:=by
   unfold zz;split
   ·unfold zee;split<;>simp
   ·simp
  have hd:∀ p,qz ns (f+1) i p=match (zz n.kind).2.1 with
   | 0=>zim n p.1 p.2.1 p.2.2
   | 1=>zoz n (qz ns f n.a.toNat (kn n p)) 0
   | _=>zoz n (qz ns f n.a.toNat p) (qz ns f n.b.toNat p):=fun p=>by
   rw[qz,hget]
  have ihA:(zz n.kind).2.1 ≠ 0→∀ (x y z:Nat) (w:World),ShapeIn ns sb so nb no cap w→Calls Tryz.prog 148 #[.pointer (some ⟨sb,so,none⟩),.int .i64 n.a,V3 x y z] w (Ret .f32 (qz ns f n.a.toNat (cn .f32 x,cn .f32 y,cn .f32 z)) w):=fun h x y z w hs=>by
   have h1:=hca h
   have h2:=ih n.a.toNat x y z w (by omega) (by omega) hs
   rwa [Int.toNat_of_nonneg h1.1]at h2
  have ihB:(zz n.kind).2.1=2→∀ (x y z:Nat) (w:World),ShapeIn ns sb so nb no cap w→Calls Tryz.prog 148 #[.pointer (some ⟨sb,so,none⟩),.int .i64 n.b,V3 x y z] w (Ret .f32 (qz ns f n.b.toNat (cn .f32 x,cn .f32 y,cn .f32 z)) w):=fun h x y z w hs=>by
   have h1:=hcb h
   have h2:=ih n.b.toNat x y z w (by omega) (by omega) hs
   rwa [Int.toNat_of_nonneg h1.1]at h2
  have hkept:zc [(⟨nb,no+i*4+1,none⟩,.int .i64 n.a),(⟨nb,no+i*4+2,none⟩,.int .i64 n.b),(⟨w.heap.size,0,none⟩,F1 x),(⟨w.heap.size,1,none⟩,F1 y),(⟨w.heap.size,2,none⟩,F1 z)] [] w2:=by
   simp only[zc,ka,kb,zb,kfa,kga]
   exact⟨hA,hB,hK⟩
  clear ih hok hca hcb hsh hn
  rcases hc3 with hc|hc|hc
  ·have hd:=hd (cn .f32 x,cn .f32 y,cn .f32 z)
   rw[hc]at hd ⊢
   go_wp2_with fail
   refine (zrv hn2 hokn hc x y z).mono ?_
   rintro _ w3⟨r,rfl,hr,hb3⟩
   go_wp2_with fail
   go_ret
   exact⟨_,rfl,by rw[hr,hd],za W2b hb3⟩
  ·have hd:=hd (cn .f32 x,cn .f32 y,cn .f32 z)
   rw[hc]at hd ⊢
   have ihA:=ihA (by rw[hc];decide)
   go_wp2_with fail
   refine Qr.wp_below_all (by kernel_rfl) (by kernel_rfl) (PhiD ns f n) ?_
   repeat (refine Qr.walk_plain rfl fun K hK=>?_;(first|(apply Qr.one_det;(focus (intro w' hw';have HK:=keep hkept hw';simp only[zc,ka,kb,zb,kfa,kga]at HK;go_simp;first|done|rfl)))|(apply Qr.one_call;(focus (intro w' hw';go_simp;first|done|exact⟨rfl,rfl⟩));(focus (intro w' hw';first|(go_at_call 235;refine (zrz (hn2.keep hw') hokn hc _ _ _).mono ?_;rintro _ w3⟨r1,r2,r3,rfl,hr1,hr2,hr3,hb1⟩;exact⟨_,rfl,by constructor<;>assumption,za hw' ‹_›,by assumption⟩)|((first|(go_at_call 148;refine (ihA _ _ _ _ (hsh2.keep hw')).mono ?_)|(go_at_call 234;refine (zk5 (hn2.keep hw') hokn (by rw[hc];decide) _ _).mono ?_));rintro _ w3⟨r1,rfl,hr1,hb1⟩;exact⟨_,rfl,by constructor<;>assumption,za hw' ‹_›,by assumption⟩)));intro v hv;cases hv));go_simp;refine hK _ ?_;clear hK K)
   rename_i a1 b1 c1 h1 h2 h3 r1 e1 r e
   refine Qr.walk_nil fun w5 hw5=>?_
   go_wp2_with fail
   go_ret
   exact⟨r,rfl,by rw[hd,e,e1,h1,h2,h3,ye],za W2b hw5⟩
  ·have hd:=hd (cn .f32 x,cn .f32 y,cn .f32 z)
   rw[hc]at hd ⊢
   have ihA:=ihA (by rw[hc];decide)
   have ihB:=ihB hc
   have ihAB:∀ c:Int,c=n.a∨c=n.b→∀ (x y z:Nat) (w:World),ShapeIn ns sb so nb no cap w→Calls Tryz.prog 148 #[.pointer (some ⟨sb,so,none⟩),.int .i64 c,V3 x y z] w (Ret .f32 (qz ns f c.toNat (cn .f32 x,cn .f32 y,cn .f32 z)) w):=by
    intro c hc
    rcases hc with h|h<;>subst h
    ·exact ihA
    ·exact ihB
   clear ihA ihB
   go_wp2_with fail
   refine Qr.wp_below_all (by kernel_rfl) (by kernel_rfl) (PhiD ns f n) ?_
   repeat (refine Qr.walk_plain rfl fun K hK=>?_;(first|(apply Qr.one_det;(focus (intro w' hw';have HK:=keep hkept hw';simp only[zc,ka,kb,zb,kfa,kga]at HK;go_simp;first|done|rfl)))|(apply Qr.one_call;(focus (intro w' hw';go_simp;first|done|exact⟨rfl,rfl⟩));(focus (intro w' hw';(first|(go_at_call 148;refine (ihAB _ (by first|exact Or.inl rfl|exact Or.inr rfl) _ _ _ _ (hsh2.keep hw')).mono ?_)|(go_at_call 234;refine (zk5 (hn2.keep hw') hokn (by rw[hc];decide) _ _).mono ?_));rintro _ w3⟨r1,rfl,hr1,hb1⟩;exact⟨_,rfl,by constructor<;>assumption,za hw' ‹_›,by assumption⟩));intro v hv;cases hv));go_simp;refine hK _ ?_;clear hK K)
   rename_i r1 e1 r2 e2 r e
   refine Qr.walk_nil fun w5 hw5=>?_
   go_wp2_with fail
   go_ret
   exact⟨r,rfl,by rw[hd,e,e1,e2],za W2b hw5⟩

def ue (n:Nat) (l:Int):Int:=if l-n<0 then -1 else l-n
def szL:List PN→Int→Int
 | [],l=>l
 | n::r,l=>if ue n.nums.length l<0 then -1 else szL r (ue n.nums.length l)
def szS (ns:List PN) (l:Int):Int:=if ue ns.length l<0 then -1 else szL ns (ue ns.length l)

theorem ztg (bp:Option Addr) (n cap:Nat) (l:Int) (w:World) (hn:n≤maxLen) (hl:0≤l∧l≤1048576) :
  Calls Tryz.prog 184 #[.slice bp n cap,.int .i64 l] w (fun e w'=>e=.returned (.int .i64 (ue n l))∧Below w.heap.size w w'):=by
 unfold maxLen at hn
 obtain⟨hl0,hl1⟩:=hl
 have hnI:(n:Int)≤9223372036854775807:=by omega
 by_cases h:l-n<0
 ·have hv:ue n l=-1:=by unfold ue;rw[if_pos h]
  rw[hv]
  go_enter Tryz.func184,Tryz.ntmps184
  go_wp2_with fail
  go_ret
  exact⟨rfl,zi _ _⟩
 ·have hv:ue n l=l-n:=by unfold ue;rw[if_neg h]
  have hv2:0≤l-(n:Int):=by omega
  rw[hv]
  go_enter Tryz.func184,Tryz.ntmps184
  go_wp2_with fail
  go_ret
  exact⟨rfl,zi _ _⟩

theorem zd1 {n:Nat} {l:Int} (hl:0≤l∧l≤1048576) (h:¬ ue n l<0):0≤ue n l∧ue n l≤1048576∧(n:Int)≤1048576:=by
 unfold ue at *
 split at h
 ·omega
 ·rename_i h';rw[if_neg h'];omega

theorem zvs (k a b:Int) (bp:Option Addr) (n cap:Nat) (l:Int) (w:World) (hn:n≤maxLen) (hl:0≤l∧l≤1048576) :
  Calls Tryz.prog 117 #[.agg #[.int .i64 k,.int .i64 a,.int .i64 b,.slice bp n cap],.int .i64 l] w (fun e w'=>e=.returned (.int .i64 (ue n l))∧Below w.heap.size w w'):=by
 have hc:=fun w=>ztg bp n cap l w hn hl
 by_cases h:ue n l<0
 ·have hm:ue n l=-1:=by
   unfold ue at h ⊢
   split
   ·rfl
   ·rename_i h';rw[if_neg h']at h;omega
  rw[hm]at hc ⊢
  clear hm h
  go_enter Tryz.func117,Tryz.ntmps117
  go_wp2_with (go_at_call 184;refine (hc _).mono ?_;rintro _ w2⟨rfl,hb2⟩)
  go_ret
  exact⟨rfl,(by repeat' (first|exact zi _ _|refine zd ?_ _|refine Below.alloc ?_ (by simp<;>omega) _|refine zj ?_ (by simp<;>omega) _|refine za ?_ ‹_›))⟩
 ·have h2:=(zd1 hl h).1
  generalize ue n l=t at *
  go_enter Tryz.func117,Tryz.ntmps117
  go_wp2_with (go_at_call 184;refine (hc _).mono ?_;rintro _ w2⟨rfl,hb2⟩)
  go_ret
  exact⟨rfl,(by repeat' (first|exact zi _ _|refine zd ?_ _|refine Below.alloc ?_ (by simp<;>omega) _|refine zj ?_ (by simp<;>omega) _|refine za ?_ ‹_›))⟩

structure NodesIn (ns:List PN) (bp:Option Addr) (nb no:Nat) (w:World):Prop where
 ptr:ns ≠ []→bp=some ⟨nb,no,none⟩
 node:∀ i (h:i<ns.length),NodeIn ns[i] nb (no+i*4) w
 long:ns.length≤maxLen∧∀ n∈ns,n.nums.length≤maxLen

theorem NodesIn.keep {ns:List PN} {bp:Option Addr} {nb no:Nat} {w w':World} (h:NodesIn ns bp nb no w) (hb:Below w.heap.size w w'):NodesIn ns bp nb no w' :=
 ⟨h.ptr,fun i hi=>(h.node i hi).keep hb,h.long⟩

set_option maxRecDepth 100000 in
theorem zvd (ns:List PN) (bp:Option Addr) (nb no cap:Nat) (l:Int) (w:World) (hns:NodesIn ns bp nb no w) (hl:0≤l∧l≤1048576) :
  Calls Tryz.prog 59 #[.slice bp ns.length cap,.int .i64 l] w (fun e w'=>e=.returned (.int .i64 (szS ns l))∧Below w.heap.size w w'):=by
 have hlong:=hns.long.1
 unfold maxLen at hlong
 have hlongI:(ns.length:Int)≤9223372036854775807:=by omega
 obtain⟨hl0,hl1⟩:=hl
 by_cases h:l-ns.length<0
 ·have hv:szS ns l=-1:=by unfold szS ue;rw[if_pos h];rfl
  rw[hv]
  clear hns
  go_enter Tryz.func59,Tryz.ntmps59
  go_wp2_with fail
  go_ret
  exact⟨rfl,zi _ _⟩
 ·have hv2:0≤l-(ns.length:Int):=by omega
  have hv:Hid (szS ns l=szL ns (l-ns.length)):=by
   unfold Hid szS ue;rw[if_neg h,if_neg h]
  have hlenI:(ns.length:Int)≤1048576:=by omega
  have hlim:l-(ns.length:Int)≤1048576:=by omega
  go_enter Tryz.func59,Tryz.ntmps59
  go_wp2_with fail
  go_loopw [1,5] (fun lv i wr=>∃ (m:Nat) (lx:Int),m≤ns.length∧i=.int .i64 (m:Int)∧lv=.int .i64 lx∧0≤lx∧lx≤1048576∧szL (ns.drop m) lx=szL ns (l-ns.length)∧Below w.heap.size w wr) (fun _ i _=>ns.length-(intOf i).toNat)
  case atStart=>exact⟨0,_,by omega,rfl,rfl,hv2,hlim,rfl,zi _ _⟩
  case round =>
   obtain⟨m,lx,hm,rfl,rfl,hx0,hx1,hrun,Wb⟩:=hrel
   by_cases hlt:m<ns.length
   ·have hlt':(m:Int)<(ns.length:Int):=by omega
    have h0:(0:Int)≤(m:Int):=by omega
    have hn:=(hns.node m hlt).keep Wb
    have hne:ns ≠ []:=by intro h;rw[h]at hlt;simp at hlt
    have hbp:=hns.ptr hne
    subst hbp
    have hdrop:ns.drop m=ns[m]::ns.drop (m+1):=List.drop_eq_getElem_cons hlt
    rw[hdrop,szL]at hrun
    have hnl:=hns.long.2 ns[m] (List.getElem_mem _)
    generalize ns[m]=n at *
    obtain⟨np,nv,nvo,ncap,hn4,-,-⟩:=hn.nums
    have hn1:=hn.kind
    have hn2:=hn.a
    have hn3:=hn.b
    have hc:=fun w=>zvs n.kind n.a n.b np n.nums.length ncap lx w hnl ⟨hx0,hx1⟩
    have hrH:=Lib.hid hrun
    clear hns hn hdrop hnl hrun
    by_cases ht:ue n.nums.length lx<0
    ·have hvv:Hid (szS ns l=-1):=by unfold Hid;rw[hv.out,← hrH.out,if_pos ht]
     go_wp2_with (go_at_call 117;refine (hc _).mono ?_;rintro _ w2⟨rfl,hb2⟩)
     go_ret
     exact⟨by rw[hvv.out];rfl,za Wb hb2⟩
    ·have h2:=zd1 ⟨hx0,hx1⟩ ht
     have hrr:Hid (szL (ns.drop (m+1)) (ue n.nums.length lx)=szL ns (l-ns.length)):=by
      unfold Hid;rw[← hrH.out,if_neg ht]
     obtain⟨h2a,h2b,-⟩:=h2
     generalize ue n.nums.length lx=t at *
     clear hrH
     go_wp2_with (go_at_call 117;refine (hc _).mono ?_;rintro _ w2⟨rfl,hb2⟩)
     exact⟨⟨m+1,t,by omega,by simp,rfl,h2a,h2b,hrr.out,za Wb hb2⟩,by simp[intOf];omega⟩
   ·obtain rfl:m=ns.length:=by omega
    rw[List.drop_length,szL]at hrun
    have hrH:=Lib.hid hrun
    clear hrun hns
    go_wp2_with fail
    go_ret
    exact⟨by rw[hv.out,← hrH.out];rfl,Wb⟩

theorem zv1 {ns:List PN}:∀ {l:Int},0≤l→szL ns l<0→szL ns l=-1:=by
 induction ns with
 | nil=>intro l h0 h;unfold szL at h;omega
 | cons n r ih =>
  intro l h0 h
  unfold szL at h ⊢
  split
  ·rfl
  ·rename_i ht
   rw[if_neg ht]at h
   exact ih (by omega) h
theorem zji {ns:List PN} {l:Int} (h:szS ns l<0):szS ns l=-1:=by
 unfold szS at *
 split
 ·rfl
 ·rename_i ht
  rw[if_neg ht]at h
  exact zv1 (by omega) h

theorem zmb (ns:List PN) (bp:Option Addr) (nb no cap:Nat) (l:Int) (w:World) (hns:NodesIn ns bp nb no w) (hl:0≤l∧l≤1048576) :
  Calls Tryz.prog 13 #[.agg #[.slice bp ns.length cap],.int .i64 l] w (fun e w'=>e=.returned (.int .i64 (szS ns l))∧Below w.heap.size w w'):=by
 have hc:=fun w' (h:Below w.heap.size w w')=>zvd ns bp nb no cap l w' (hns.keep h) hl
 by_cases h:szS ns l<0
 ·have hm:=zji h
  rw[hm]at hc ⊢
  clear hm h hns
  go_enter Tryz.func13,Tryz.ntmps13
  go_wp2_with (go_at_call 59;refine (hc _ (by repeat' (first|exact zi _ _|refine zd ?_ _|refine Below.alloc ?_ (by simp<;>omega) _|refine zj ?_ (by simp<;>omega) _|refine za ?_ ‹_›))).mono ?_;rintro _ w2⟨rfl,hb2⟩)
  go_ret
  exact⟨rfl,(by repeat' (first|exact zi _ _|refine zd ?_ _|refine Below.alloc ?_ (by simp<;>omega) _|refine zj ?_ (by simp<;>omega) _|refine za ?_ ‹_›))⟩
 ·have h2:0≤szS ns l:=by omega
  clear hns
  generalize szS ns l=t at *
  go_enter Tryz.func13,Tryz.ntmps13
  go_wp2_with (go_at_call 59;refine (hc _ (by repeat' (first|exact zi _ _|refine zd ?_ _|refine Below.alloc ?_ (by simp<;>omega) _|refine zj ?_ (by simp<;>omega) _|refine za ?_ ‹_›))).mono ?_;rintro _ w2⟨rfl,hb2⟩)
  go_ret
  exact⟨rfl,(by repeat' (first|exact zi _ _|refine zd ?_ _|refine Below.alloc ?_ (by simp<;>omega) _|refine zj ?_ (by simp<;>omega) _|refine za ?_ ‹_›))⟩

theorem ziz:∀ {ns:List PN} {l:Int},0≤l→l≤1048576→0≤szL ns l→∀ n∈ns,(n.nums.length:Int)≤1048576
 | [],_,_,_,_,n,h=>by cases h
 | x::r,l,h0,h1,hs,n,h=>by
  unfold szL at hs
  by_cases ht:ue x.nums.length l<0
  ·rw[if_pos ht]at hs;omega
  ·rw[if_neg ht]at hs
   have:=zd1 ⟨h0,h1⟩ ht
   rcases List.mem_cons.1 h with h|h
   ·subst h;exact this.2.2
   ·exact ziz this.1 this.2.1 hs n h
theorem zip {ns:List PN} {l:Int} (h0:0≤l) (h1:l≤1048576) (hs:¬ szS ns l<0):(ns.length:Int)≤1048576∧∀ n∈ns,(n.nums.length:Int)≤1048576:=by
 unfold szS at hs
 by_cases ht:ue ns.length l<0
 ·rw[if_pos ht]at hs;omega
 ·rw[if_neg ht]at hs
  have:=zd1 ⟨h0,h1⟩ ht
  exact⟨this.2.2,ziz this.1 this.2.1 (by omega)⟩
def inI (a lo hi:Int):Bool:=decide (lo≤a) && decide (a≤hi)
def zmw (n:PN):Bool:=decide (n.nums.length=(zz n.kind).1) && !n.nums.any (ze7 (zz n.kind).2.2.2)
def qj (n:PN) (i:Int):Bool :=
 inI n.kind 0 16 && zmw n &&
  (if inI n.kind 0 4 then decide (n.a=0) && decide (n.b=0) else inI n.a 0 (i-1) && (if inI n.kind 5 8 then inI n.b 0 (i-1) else if inI n.kind 12 14 then inI n.b 0 2 else decide (n.b=0)))

inductive PhiN (n:PN):FuncId→Array Value→Value→Prop
 | inn (a b c:Int):PhiN n 71 #[.int .i64 a,.int .i64 b,.int .i64 c] (.bool (inI a b c))
 | num (k:Int) (v:Value):PhiN n 185 #[.int .i64 k,v] (.bool (zmw n))

theorem zyc {c:Prop} [Decidable c] {p q:Prop} (h:¬ c) (hq:q):if c then p else q:=by rw[if_neg h];exact hq
theorem zyy {bv:Bool} (hb:bv=false) (h:(some (!bv)==some false)=true):False:=by subst hb;cases h

set_option maxRecDepth 100000 in
theorem zr1 {n:PN} {b o:Nat} {w:World} (hn:NodeIn n b o w) (hl:n.nums.length<10000000) (i:Nat) (hi:i<1000) (hk0:inI n.kind 0 16=false) :
  Calls Tryz.prog 118 #[.pointer (some ⟨b,o,none⟩),.int .i64 i] w (fun e w'=>e=.returned (.bool (qj n i))∧Below w.heap.size w w'):=by
 have hK1:=hn.kind
 obtain⟨nbp,nbv,nov,ncap,hK2,hK3,hK4⟩:=hn.nums
 have hkept:zc [(⟨b,o,none⟩,.int .i64 n.kind),(⟨b,o+3,none⟩,.slice nbp n.nums.length ncap)] [] w:=by
  simp only[zc,ka,kb,zb,kfa,kga]
  exact⟨hK1,hK2⟩
 have hb:b<w.heap.size:=zg (a:=⟨b,o,none⟩) (by rw[hK1];rfl)
 ·have hv:Hid (qj n i=false):=by unfold Hid;simp only[qj,hk0,Bool.false_and]
  have HK0:Hid (inI n.kind 0 16=false):=Lib.hid hk0
  clear hk0
  go_enter Tryz.func118,Tryz.ntmps118
  go_wp2_with fail
  refine Qr.wp_below_all (by kernel_rfl) (by kernel_rfl) (PhiN n) ?_
  iterate 7 (first|(refine Qr.walk_plain rfl fun K hK=>?_;apply Qr.one_det;(focus (intro w' hw';have HK:=keep hkept hw';simp only[zc,ka,kb,zb,kfa,kga]at HK;go_simp;first|done|rfl));go_simp;refine hK _ ?_;clear hK K)|(refine Qr.walk_plain rfl fun K hK=>?_;apply Qr.one_call;(focus (intro w' hw';go_simp;first|done|exact⟨rfl,rfl⟩));(focus (intro w' hw'; go_at_call 71;refine (kz _ _ _ _).mono ?_;rintro _ w2⟨rfl,rfl⟩;exact⟨_,rfl,by constructor,hw',zi _ _⟩));intro v hv2;obtain⟨bv,rfl,HB⟩:∃ bv,v=.bool bv∧Hid (bv=false):=(by cases hv2;exact⟨_,rfl,HK0⟩);go_simp;refine hK _ ?_;clear hK K))
  iterate 10 (refine Qr.walk_step fun K hK=>?_;refine zyc (fun h=>zyy HB.out h) ?_;go_simp;refine hK _ ?_;clear hK K)
  refine Qr.walk_plain rfl fun K hK=>?_
  refine Qr.one_det (v:=.bool true) (by intro w' hw';have hb0:=HB.out;subst hb0;go_simp) ?_;go_simp;refine hK _ ?_;clear hK K
  refine Qr.walk_nil fun w6 hw6=>?_
  go_wp2_with fail
  go_ret
  exact⟨by rw[hv.out];rfl,hw6⟩

set_option maxRecDepth 100000 in
theorem zpa {n:PN} {b o:Nat} {w:World} (hn:NodeIn n b o w) (hl:n.nums.length<10000000) (i:Nat) (hi:i<1000) :
  Calls Tryz.prog 118 #[.pointer (some ⟨b,o,none⟩),.int .i64 i] w (fun e w'=>e=.returned (.bool (qj n i))∧Below w.heap.size w w'):=by
 have hK1:=hn.kind
 obtain⟨nbp,nbv,nov,ncap,hK2,hK3,hK4⟩:=hn.nums
 have hkept:zc [(⟨b,o,none⟩,.int .i64 n.kind),(⟨b,o+3,none⟩,.slice nbp n.nums.length ncap)] [] w:=by
  simp only[zc,ka,kb,zb,kfa,kga]
  exact⟨hK1,hK2⟩
 have hb:b<w.heap.size:=zg (a:=⟨b,o,none⟩) (by rw[hK1];rfl)
 cases hk0:inI n.kind 0 16
 ·exact zr1 hn hl i hi hk0
 have hnumc:∀ w',Below w.heap.size w w'→Calls Tryz.prog 185 #[.int .i64 n.kind,.slice nbp n.nums.length ncap] w' (fun e w''=>e=.returned (.bool (zmw n))∧Below w'.heap.size w' w''):=fun w' h=>zhg n.kind (by simpa [inI] using hk0) n.nums nbp nbv nov ncap w' hK3 (fun i hi=>by rw[yc h _ (by rw[hK4 i hi];rfl)];exact hK4 i hi)
 go_enter Tryz.func118,Tryz.ntmps118
 go_wp2_with fail
 refine Qr.wp_below_all (by kernel_rfl) (by kernel_rfl) (PhiN n) ?_
 repeat (refine Qr.walk_plain rfl fun K hK=>?_;(first|(apply Qr.one_det;(focus (intro w' hw';have HK:=keep hkept hw';simp only[zc,ka,kb,zb,kfa,kga]at HK;go_simp;first|done|rfl)))|(apply Qr.one_call;(focus (intro w' hw';go_simp;first|done|exact⟨rfl,rfl⟩));(focus (intro w' hw';go_at_call 71;refine (kz _ _ _ _).mono ?_;rintro _ w2⟨rfl,rfl⟩;exact⟨_,rfl,by constructor,hw',zi _ _⟩));intro v hv;cases hv));go_simp;refine hK _ ?_;clear hK K)
 repeat (first|(refine Qr.walk_step fun K hK=>?_;rw[if_pos (by rfl)];apply Qr.one_det;(focus (intro w' hw';have HK:=keep hkept hw';simp only[zc,ka,kb,zb,kfa,kga]at HK;go_simp;first|done|rfl));go_simp;refine hK _ ?_;clear hK K)|(refine Qr.walk_step fun K hK=>?_;rw[if_pos (by rfl)];apply Qr.one_call;(focus (intro w' hw';go_simp;first|done|exact⟨rfl,rfl⟩));(focus (intro w' hw'; go_at_call 185;refine (hnumc _ hw').mono ?_;rintro _ w2⟨rfl,hb1⟩;exact⟨_,rfl,by constructor,za hw' ‹_›,by assumption⟩));intro v hv;cases hv;go_simp;refine hK _ ?_;clear hK K))
 refine Qr.walk_nil fun w6 hw6=>?_
 have hA:=(hn.keep hw6).a
 have hB:=(hn.keep hw6).b
 have hK:=(hn.keep hw6).kind
 clear hkept hnumc hK1 hK2 hK3 hK4 hn
 have hi1:(0:Int)≤(i:Int):=by omega
 have hi2:(i:Int)<1000:=by omega
 have hv:Hid (qj n i=(zmw n && (if inI n.kind 0 4 then decide (n.a=0) && decide (n.b=0) else inI n.a 0 (i-1) && (if inI n.kind 5 8 then inI n.b 0 (i-1) else if inI n.kind 12 14 then inI n.b 0 2 else decide (n.b=0))))):=by
  unfold Hid;simp only[qj,hk0,Bool.true_and]
 cases hns:zmw n
 ·go_wp2_with fail
  go_ret
  exact⟨by rw[hv.out,hns];rfl,hw6⟩
 have hin:∀ (a c d:Int) (w:World),Calls Tryz.prog 71 #[.int .i64 a,.int .i64 c,.int .i64 d] w (fun e w'=>e=.returned (.bool (inI a c d))∧w=w'):=fun a c d w=>kz a c d w
 have hleaf:∀ (a:Int) (w:World),Calls Tryz.prog 119 #[.int .i64 a] w (fun e w'=>e=.returned (.bool (inI a 0 4))∧w=w'):=fun a w=>kp a w
 have htwo:∀ (a:Int) (w:World),Calls Tryz.prog 120 #[.int .i64 a] w (fun e w'=>e=.returned (.bool (inI a 5 8))∧w=w'):=fun a w=>zah a w
 have haxis:∀ (a:Int) (w:World),Calls Tryz.prog 186 #[.int .i64 a] w (fun e w'=>e=.returned (.bool (inI a 12 14))∧w=w'):=fun a w=>zn1 a w
 cases hlf:inI n.kind 0 4
 ·cases hia:inI n.a 0 ((i:Int)-1)<;>cases htw:inI n.kind 5 8<;>cases hax:inI n.kind 12 14<;>by_cases hb':n.b=0
  all_goals
   go_wp2_with (first
    | (go_at_call 119;refine (hleaf _ _).mono ?_;rintro _ w2⟨rfl,rfl⟩;rw[hlf])
    | (go_at_call 120;refine (htwo _ _).mono ?_;rintro _ w2⟨rfl,rfl⟩;rw[htw])
    | (go_at_call 186;refine (haxis _ _).mono ?_;rintro _ w2⟨rfl,rfl⟩;rw[hax])
    | (go_at_call 71;refine (hin _ _ _ _).mono ?_;rintro _ w2⟨rfl,rfl⟩;(try rw[hia])))
   go_ret
   exact⟨by rw[hv.out,hns,hlf,hia,htw,hax];first|rfl|simp[hb'],hw6⟩
 ·by_cases ha:n.a=0<;>by_cases hb':n.b=0
  all_goals
   go_wp2_with (go_at_call 119;refine (hleaf _ _).mono ?_;rintro _ w2⟨rfl,rfl⟩;rw[hlf])
   go_ret
   exact⟨by rw[hv.out,hns,hlf];simp[ha,hb'],hw6⟩
def zh1 (ns:List PN) (p:Nat × Nat × Nat):Nat:=qz ns ns.length (ns.length-1) p

inductive PhiT (ns:List PN):FuncId→Array Value→Value→Prop
 | last (sa:Addr):PhiT ns 83 #[.pointer (some sa)] (.int .i64 ((ns.length:Int)-1))
 | dist (sa:Addr) (i:Int) (x y z r:Nat) (h:cn .f32 r=qz ns ns.length i.toNat (cn .f32 x,cn .f32 y,cn .f32 z)):PhiT ns 148 #[.pointer (some sa),.int .i64 i,V3 x y z] (F1 r)

theorem zaw {n:Nat} (h:1≤n∧n≤1000):wrap64 ((n:Int)-1)=(n:Int)-1:=by
 unfold wrap64;omega

set_option maxRecDepth 100000 in
theorem zuy (ns:List PN) (hok:qx ns) (hl:1≤ns.length∧ns.length≤1000) (sb so nb no cap x y z:Nat) (w:World) (hsh:ShapeIn ns sb so nb no cap w) :
  Calls Tryz.prog 85 #[.pointer (some ⟨sb,so,none⟩),V3 x y z] w (Ret .f32 (zh1 ns (cn .f32 x,cn .f32 y,cn .f32 z)) w):=by
 have hsb:sb<w.heap.size:=zg (a:=⟨sb,so,none⟩) (by rw[hsh.list];rfl)
 have hlast:∀ w',ShapeIn ns sb so nb no cap w'→Calls Tryz.prog 83 #[.pointer (some ⟨sb,so,none⟩)] w' (fun e w''=>e=.returned (.int .i64 ((ns.length:Int)-1))∧Below w'.heap.size w' w''):=fun w' h =>
  (zav sb so _ _ _ w' h.list).mono (by rintro _ _ ⟨rfl,rfl⟩;exact⟨by rw[zaw hl],zi _ _⟩)
 have hdist:∀ (x y z:Nat) (w:World),ShapeIn ns sb so nb no cap w→Calls Tryz.prog 148 #[.pointer (some ⟨sb,so,none⟩),.int .i64 ((ns.length:Int)-1),V3 x y z] w (Ret .f32 (qz ns ns.length ((ns.length:Int)-1).toNat (cn .f32 x,cn .f32 y,cn .f32 z)) w):=fun x y z w h=>by
  have:=zu0 ns hok sb so nb no cap ns.length (ns.length-1) x y z w (by omega) (by omega) h
  have e:(((ns.length-1:Nat):Int))=(ns.length:Int)-1:=by omega
  rw[e]at this
  have e2:((ns.length:Int)-1).toNat=ns.length-1:=by omega
  rw[e2]
  exact this
 go_enter Tryz.func85,Tryz.ntmps85
 go_wp2_with fail
 have W1b:Below w.heap.size w (w.alloc (.cells #[F1 x,F1 y,F1 z] 38)):=(by repeat' (first|exact zi _ _|refine zd ?_ _|refine Below.alloc ?_ (by simp<;>omega) _|refine zj ?_ (by simp<;>omega) _|refine za ?_ ‹_›))

 have hkept:zc [(⟨w.heap.size,0,none⟩,F1 x),(⟨w.heap.size,1,none⟩,F1 y),(⟨w.heap.size,2,none⟩,F1 z)] [] (w.alloc (.cells #[F1 x,F1 y,F1 z] 38)):=by
  simp only[zc,ka,kb,zb,kfa,kga]
  simp
 generalize w.alloc (.cells #[F1 x,F1 y,F1 z] 38)=W1 at W1b hkept ⊢
 have hsh1:=hsh.keep W1b
 refine Qr.wp_below_all (by kernel_rfl) (by kernel_rfl) (PhiT ns) ?_
 repeat (refine Qr.walk_plain rfl fun K hK=>?_;(first|(apply Qr.one_det;(focus (intro w' hw';have HK:=keep hkept hw';simp only[zc,ka,kb,zb,kfa,kga]at HK;go_simp;first|done|rfl)))|(apply Qr.one_call;(focus (intro w' hw';go_simp;first|done|exact⟨rfl,rfl⟩));(focus (intro w' hw';first|(go_at_call 83;refine (hlast _ (hsh1.keep hw')).mono ?_;rintro _ w3⟨rfl,hb1⟩;exact⟨_,rfl,by constructor<;>assumption,za hw' ‹_›,by assumption⟩)|(go_at_call 148;refine (hdist _ _ _ _ (hsh1.keep hw')).mono ?_;rintro _ w3⟨r1,rfl,hr1,hb1⟩;exact⟨_,rfl,by constructor<;>assumption,za hw' ‹_›,by assumption⟩)));intro v hv;cases hv));go_simp;refine hK _ ?_;clear hK K)
 rename_i r e
 refine Qr.walk_nil fun w5 hw5=>?_
 go_wp2_with fail
 go_ret
 have e2:((ns.length:Int)-1).toNat=ns.length-1:=by omega
 exact⟨r,rfl,by rw[e,e2];rfl,za W1b hw5⟩
def zcw (k:Int) (xs:List Nat):Bool:=qe k && decide (xs.length=(zz k).1) && !xs.any (fun x=>!qn x) && !xs.any (qb (zz k).2.2.2)
theorem zw4 (k:Int):(zz k).2.2.2≤2:=by
 unfold zz;split
 ·unfold zee;split<;>simp
 ·simp

set_option maxRecDepth 100000 in
theorem zh4 (k:Int) (xs:List Nat) (bp:Option Addr) (bv ov cap:Nat) (w:World) (h1:xs ≠ []→bp=some ⟨bv,ov,none⟩) (h2:∀ i (h:i<xs.length),w.cell? ⟨bv,ov+i,none⟩=some (F1 xs[i])) (hl:xs.length<10000000) :
  Calls Tryz.prog 128 #[.int .i64 k,.slice bp xs.length cap] w (fun e w'=>e=.returned (.bool (zcw k xs))∧Below w.heap.size w w'):=by
 go_enter Tryz.func128,Tryz.ntmps128
 go_wp2_with fail
 refine (zg8 k w).mono ?_
 rintro _ w2⟨rfl,hb2⟩
 have hr2:(zz k).2.2.2≤2:=zw4 k
 have W3b:Below w.heap.size w (w2.alloc (.cells #[I64 (zz k).1,I64 (zz k).2.1,.bool (zz k).2.2.1,I64 (zz k).2.2.2] 217)):=hb2.alloc hb2.size _
 have hkept:zc [(⟨w2.heap.size,0,none⟩,I64 (zz k).1),(⟨w2.heap.size,3,none⟩,I64 (zz k).2.2.2)] [] (w2.alloc (.cells #[I64 (zz k).1,I64 (zz k).2.1,.bool (zz k).2.2.1,I64 (zz k).2.2.2] 217)):=by
  simp only[zc,ka,kb,zb,kfa,kga]
  simp
 simp only[ze3]
 have hn:zcw k xs=(qe k && decide (xs.length=(zz k).1) && !xs.any (fun x=>!qn x) && !xs.any (qb (zz k).2.2.2)):=rfl
 generalize qe k=ko at *
 generalize hrk:zz k=rk at *
 obtain⟨n0,n1,n2,n3⟩:=rk
 simp only at hn hr2 W3b hkept ⊢
 have W3c:Below w.heap.size w (w2.alloc (.cells #[I64 n0,I64 n1,.bool n2,I64 n3] 217)):=W3b
 have h3:∀ i (h:i<xs.length),(w2.alloc (.cells #[I64 n0,I64 n1,.bool n2,I64 n3] 217)).cell? ⟨bv,ov+i,none⟩=some (F1 xs[i]):=fun i hi=>by rw[yc W3c _ (by rw[h2 i hi];rfl)];exact h2 i hi
 clear h2
 cases ko
 ·go_wp2_with fail
  go_ret
  exact⟨by rw[hn];rfl,W3c⟩
 by_cases hlen:xs.length=n0
 ·subst hlen
  have hfin:=yf xs bp bv ov cap _ h1 h3 hl
  go_wp2_with fail
  refine hfin.mono ?_
  rintro _ w4⟨rfl,hb4⟩
  have W4b:=za W3c hb4
  cases hf:xs.any (fun x=>!qn x)
  ·have h4:∀ i (h:i<xs.length),w4.cell? ⟨bv,ov+i,none⟩=some (F1 xs[i]):=fun i hi=>by rw[yc hb4 _ (by rw[h3 i hi];rfl)];exact h3 i hi
   have hkept4:=keep hkept hb4
   have hc:=zhs ⟨w2.heap.size,0,none⟩ (qb n3) xs bp bv ov cap w4 h1 h4 hl (fun x w' hw'=>zrx n3 hr2 x w2.heap.size 0 w' (by
    have hK:=keep hkept4 hw'
    simp only[zc,ka,kb,zb,kfa,kga]at hK
    exact hK.2))
   clear h1 h3 h4 hkept hfin
   go_wp2_with fail
   refine hc.mono ?_
   rintro _ w5⟨rfl,hb5⟩
   go_wp2_with fail
   go_ret
   exact⟨by rw[hn,hf];simp,za W4b hb5⟩
  ·clear h1 h3
   go_wp2_with fail
   go_ret
   exact⟨by rw[hn,hf];simp,W4b⟩
 ·have hlen':(xs.length:Int) ≠ (n0:Int):=by omega
  clear h1 h3
  go_wp2_with fail
  go_ret
  exact⟨by rw[hn];simp[hlen],W3c⟩

def zs2 (k a b:Int):Bool:=(decide (0<(zz k).2.1) || decide (a=0)) && (decide ((zz k).2.1=2) || decide (b=0) || ((zz k).2.2.1 && (decide (0≤b) && decide (b≤2))))

theorem ur (k:Int):(zz k).2.1=0∨(zz k).2.1=1∨(zz k).2.1=2:=by
 unfold zz;split
 ·unfold zee;split<;>simp
 ·simp

set_option maxRecDepth 100000 in
theorem zow (nb no:Nat) (k x y:Int) (w:World) (h0:w.cell? ⟨nb,no,none⟩=some (.int .i64 k)) (h1:w.cell? ⟨nb,no+1,none⟩=some (.int .i64 x)) (h2:w.cell? ⟨nb,no+2,none⟩=some (.int .i64 y)) :
  Calls Tryz.prog 129 #[.pointer (some ⟨nb,no,none⟩)] w (fun e w'=>e=.returned (.bool (zs2 k x y))∧Below w.heap.size w w'):=by
 have hb:nb<w.heap.size:=zg (a:=⟨nb,no,none⟩) (by rw[h0];rfl)
 go_enter Tryz.func129,Tryz.ntmps129
 go_wp2_with fail
 refine (zg8 k w).mono ?_
 rintro _ w2⟨rfl,hb2⟩
 have W3b:Below w.heap.size w (w2.alloc (.cells #[I64 (zz k).1,I64 (zz k).2.1,.bool (zz k).2.2.1,I64 (zz k).2.2.2] 217)):=hb2.alloc hb2.size _
 simp only[ze3]
 have hn:Hid (zs2 k x y=((decide (0<(zz k).2.1) || decide (x=0)) && (decide ((zz k).2.1=2) || decide (y=0) || ((zz k).2.2.1 && (decide (0≤y) && decide (y≤2)))))):=by unfold Hid;rfl
 have h3:w2.cell? ⟨nb,no+1,none⟩=some (.int .i64 x):=by rw[yc hb2 _ (by rw[h1];rfl)];exact h1
 have h4:w2.cell? ⟨nb,no+2,none⟩=some (.int .i64 y):=by rw[yc hb2 _ (by rw[h2];rfl)];exact h2
 have hnb2:nb<w2.heap.size:=zg (a:=⟨nb,no+1,none⟩) (by rw[h3];rfl)
 have hk3:=ur k
 clear h0 h1 h2 hb2
 generalize (zz k).2.2.1=n2 at *
 generalize (zz k).2.1=n1 at *
 by_cases hx:x=0<;>by_cases hy:y=0<;>cases n2<;>rcases hk3 with h|h|h<;>subst h
 all_goals try subst hx
 all_goals try subst hy
 all_goals
  go_wp2_with (go_at_call 74;refine (zes _ _ _ _).mono ?_;rintro _ w5⟨rfl,rfl⟩)
  go_ret
  exact⟨by rw[hn.out];simp[*],W3b⟩
end Go.Proofs.YtbiacfkiakddiaaGreat
