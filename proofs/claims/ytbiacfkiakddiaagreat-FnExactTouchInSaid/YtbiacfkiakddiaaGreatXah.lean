/-
 Lemmas: W15,W4,S9,S10.
-/
import Derived.Test.YtbiacfkiakddiaaGreatXag
set_option linter.unusedVariables false
set_option linter.unusedSimpArgs false
set_option maxHeartbeats 2000000
namespace Go.Proofs.YtbiacfkiakddiaaGreat
open Go.RowKit Go.Fl
def qn (x:Nat):Bool:=eqk .f32 (B .sub (cn .f32 x) (cn .f32 x)) 0

theorem ztz (a:Nat) (w:World) :
  Calls Tryz.prog 256 #[.float .f32 a] w (fun e w'=>e=.returned (.bool (!qn a))∧Below w.heap.size w w'):=by
 go_enter Tryz.func256,Tryz.ntmps256
 go_wp2_with (go_at_call 150;refine (zjn _ _).mono ?_;rintro _ w2⟨rfl,hb1⟩)
 go_ret
 exact⟨rfl,hb1⟩

theorem j8 (p:Nat→Bool) (xs:List Nat) (m:Nat) (h:m<xs.length) (h0:(xs.take m).any p=false) (h1:p xs[m]=false):(xs.take (m+1)).any p=false:=by
 rw[List.take_succ_eq_append_getElem h,List.any_append,h0]
 simp[h1]

set_option maxRecDepth 100000 in
theorem zsn (p:Nat→Bool) (xs:List Nat) (bp:Option Addr) (bv ov cap:Nat) (w:World) (h1:xs ≠ []→bp=some ⟨bv,ov,none⟩) (h2:∀ i (h:i<xs.length),w.cell? ⟨bv,ov+i,none⟩=some (.float .f32 xs[i])) (hl:xs.length<10000000)
  (hcall:∀ x w',Below w.heap.size w w'→Calls Tryz.prog 256 #[.float .f32 x] w' (fun e w''=>e=.returned (.bool (p x))∧Below w'.heap.size w' w'')) :
  Calls Tryz.prog 257 #[.slice bp xs.length cap,.func (.func 256) #[] #[]] w (fun e w'=>∃ r:Int,e=.returned (.int .i64 r)∧decide (0≤r)=xs.any p∧Below w.heap.size w w'):=by
 go_enter Tryz.func257,Tryz.ntmps257
 go_wp2_with fail
 go_loopw [8] (fun i wr=>∃ m:Nat,m≤xs.length∧i=.int .i64 (m:Int)∧(xs.take m).any p=false∧Below w.heap.size w wr) (fun i _=>xs.length-(intOf i).toNat)
 case atStart=>exact⟨0,by omega,rfl,rfl,(by repeat' (first|exact zi _ _|refine zd ?_ _|refine Below.alloc ?_ (by simp<;>omega) _|refine zj ?_ (by simp<;>omega) _|refine za ?_ ‹_›))⟩
 case round =>
  obtain⟨m,hm,rfl,hany,hwr⟩:=hrel
  by_cases hlt:m<xs.length
  ·have hne:xs ≠ []:=by intro h;rw[h]at hlt;simp at hlt
   have hc:=h2 m hlt
   have hlt':(m:Int)<(xs.length:Int):=by omega
   have h0:(0:Int)≤(m:Int):=by omega
   have hc':wr.cell? ⟨bv,ov+m,none⟩=some (.float .f32 xs[m]):=by rw[yc hwr _ (by rw[hc];rfl)];exact hc
   have hbp:=h1 hne
   subst hbp
   clear h1 h2 hc
   go_wp2_with fail
   refine (hcall _ _ hwr).mono ?_
   rintro _ w2⟨rfl,hb2⟩
   have hwr2:=za hwr hb2
   cases hp:p xs[m]
   ·go_wp2_with fail
    refine⟨⟨m+1,by omega,by simp,j8 p xs m hlt hany hp,hwr2⟩,by simp[intOf];omega⟩
   ·go_wp2_with fail
    go_ret
    refine⟨_,rfl,?_,hwr2⟩
    rw[show xs.any p=true from List.any_eq_true.2 ⟨xs[m],List.getElem_mem _,hp⟩]
    simp
  ·obtain rfl:m=xs.length:=by omega
   go_wp2_with fail
   go_ret
   exact⟨_,rfl,by rw[List.take_length]at hany;rw[hany];rfl,hwr⟩
set_option maxRecDepth 100000 in
theorem zoi (ra:Addr) (p:Nat→Bool) (xs:List Nat) (bp:Option Addr) (bv ov cap:Nat) (w:World) (h1:xs ≠ []→bp=some ⟨bv,ov,none⟩) (h2:∀ i (h:i<xs.length),w.cell? ⟨bv,ov+i,none⟩=some (.float .f32 xs[i])) (hl:xs.length<10000000)
  (hcall:∀ x w',Below w.heap.size w w'→Calls Tryz.prog 206 #[.float .f32 x,.pointer (some ra)] w' (fun e w''=>e=.returned (.bool (p x))∧Below w'.heap.size w' w'')) :
  Calls Tryz.prog 257 #[.slice bp xs.length cap,.func (.func 206) #[] #[.pointer (some ra)]] w (fun e w'=>∃ r:Int,e=.returned (.int .i64 r)∧decide (0≤r)=xs.any p∧Below w.heap.size w w'):=by
 go_enter Tryz.func257,Tryz.ntmps257
 go_wp2_with fail
 go_loopw [8] (fun i wr=>∃ m:Nat,m≤xs.length∧i=.int .i64 (m:Int)∧(xs.take m).any p=false∧Below w.heap.size w wr) (fun i _=>xs.length-(intOf i).toNat)
 case atStart=>exact⟨0,by omega,rfl,rfl,(by repeat' (first|exact zi _ _|refine zd ?_ _|refine Below.alloc ?_ (by simp<;>omega) _|refine zj ?_ (by simp<;>omega) _|refine za ?_ ‹_›))⟩
 case round =>
  obtain⟨m,hm,rfl,hany,hwr⟩:=hrel
  by_cases hlt:m<xs.length
  ·have hne:xs ≠ []:=by intro h;rw[h]at hlt;simp at hlt
   have hc:=h2 m hlt
   have hlt':(m:Int)<(xs.length:Int):=by omega
   have h0:(0:Int)≤(m:Int):=by omega
   have hc':wr.cell? ⟨bv,ov+m,none⟩=some (.float .f32 xs[m]):=by rw[yc hwr _ (by rw[hc];rfl)];exact hc
   have hbp:=h1 hne
   subst hbp
   clear h1 h2 hc
   go_wp2_with fail
   refine (hcall _ _ hwr).mono ?_
   rintro _ w2⟨rfl,hb2⟩
   have hwr2:=za hwr hb2
   cases hp:p xs[m]
   ·go_wp2_with fail
    refine⟨⟨m+1,by omega,by simp,j8 p xs m hlt hany hp,hwr2⟩,by simp[intOf];omega⟩
   ·go_wp2_with fail
    go_ret
    refine⟨_,rfl,?_,hwr2⟩
    rw[show xs.any p=true from List.any_eq_true.2 ⟨xs[m],List.getElem_mem _,hp⟩]
    simp
  ·obtain rfl:m=xs.length:=by omega
   go_wp2_with fail
   go_ret
   exact⟨_,rfl,by rw[List.take_length]at hany;rw[hany];rfl,hwr⟩
set_option maxRecDepth 100000 in
theorem zi4 (p:Nat→Bool) (xs:List Nat) (bp:Option Addr) (bv ov cap:Nat) (w:World) (h1:xs ≠ []→bp=some ⟨bv,ov,none⟩) (h2:∀ i (h:i<xs.length),w.cell? ⟨bv,ov+i,none⟩=some (.float .f32 xs[i])) (hl:xs.length<10000000)
  (hcall:∀ x w',Below w.heap.size w w'→Calls Tryz.prog 256 #[.float .f32 x] w' (fun e w''=>e=.returned (.bool (p x))∧Below w'.heap.size w' w'')) :
  Calls Tryz.prog 205 #[.slice bp xs.length cap,.func (.func 256) #[] #[]] w (fun e w'=>e=.returned (.bool (xs.any p))∧Below w.heap.size w w'):=by
 have hi:=zsn p xs bp bv ov cap w h1 h2 hl hcall
 clear h1 h2 hcall
 go_enter Tryz.func205,Tryz.ntmps205
 go_wp2_with fail
 refine hi.mono ?_
 rintro _ w2⟨r,rfl,hr,hb2⟩
 cases ha:xs.any p
 ·rw[ha]at hr
  have hr':r<0:=by simpa using hr
  go_wp2_with fail
  go_ret
  exact⟨by rw[ha];rfl,hb2⟩
 ·rw[ha]at hr
  have hr':0≤r:=by simpa using hr
  go_wp2_with fail
  go_ret
  exact⟨by rw[ha];rfl,hb2⟩

set_option maxRecDepth 100000 in
theorem zhs (ra:Addr) (p:Nat→Bool) (xs:List Nat) (bp:Option Addr) (bv ov cap:Nat) (w:World) (h1:xs ≠ []→bp=some ⟨bv,ov,none⟩) (h2:∀ i (h:i<xs.length),w.cell? ⟨bv,ov+i,none⟩=some (.float .f32 xs[i])) (hl:xs.length<10000000)
  (hcall:∀ x w',Below w.heap.size w w'→Calls Tryz.prog 206 #[.float .f32 x,.pointer (some ra)] w' (fun e w''=>e=.returned (.bool (p x))∧Below w'.heap.size w' w'')) :
  Calls Tryz.prog 205 #[.slice bp xs.length cap,.func (.func 206) #[] #[.pointer (some ra)]] w (fun e w'=>e=.returned (.bool (xs.any p))∧Below w.heap.size w w'):=by
 have hi:=zoi ra p xs bp bv ov cap w h1 h2 hl hcall
 clear h1 h2 hcall
 go_enter Tryz.func205,Tryz.ntmps205
 go_wp2_with fail
 refine hi.mono ?_
 rintro _ w2⟨r,rfl,hr,hb2⟩
 cases ha:xs.any p
 ·rw[ha]at hr
  have hr':r<0:=by simpa using hr
  go_wp2_with fail
  go_ret
  exact⟨by rw[ha];rfl,hb2⟩
 ·rw[ha]at hr
  have hr':0≤r:=by simpa using hr
  go_wp2_with fail
  go_ret
  exact⟨by rw[ha];rfl,hb2⟩

theorem yf (xs:List Nat) (bp:Option Addr) (bv ov cap:Nat) (w:World) (h1:xs ≠ []→bp=some ⟨bv,ov,none⟩) (h2:∀ i (h:i<xs.length),w.cell? ⟨bv,ov+i,none⟩=some (.float .f32 xs[i])) (hl:xs.length<10000000) :
  Calls Tryz.prog 204 #[.slice bp xs.length cap] w (fun e w'=>e=.returned (.bool (!xs.any (fun x=>!qn x)))∧Below w.heap.size w w'):=by
 have hi:=zi4 (fun x=>!qn x) xs bp bv ov cap w h1 h2 hl (fun x w' _=>ztz x w')
 clear h1 h2
 go_enter Tryz.func204,Tryz.ntmps204
 go_wp2_with fail
 refine hi.mono ?_
 rintro _ w2⟨rfl,hb2⟩
 go_wp2_with fail
 go_ret
 exact⟨rfl,hb2⟩

def qb (s:Nat) (x:Nat):Bool:=(s==1 && ltk .f32 (cn .f32 x) 0) || (s==2 && lek .f32 (cn .f32 x) 0)

set_option maxRecDepth 100000 in
theorem zrx (s:Nat) (hs:s≤2) (a rb ro:Nat) (w:World) (h:w.cell? ⟨rb,ro+3,none⟩=some (.int .i64 (s:Int))) :
  Calls Tryz.prog 206 #[.float .f32 a,.pointer (some ⟨rb,ro,none⟩)] w (fun e w'=>e=.returned (.bool (qb s a))∧Below w.heap.size w w'):=by
 have:s=0∨s=1∨s=2:=by omega
 rcases this with h|h|h<;>subst h
 all_goals
  go_enter Tryz.func206,Tryz.ntmps206
  go_wp2_with fail
  all_goals
   go_ret
   refine⟨congrArg (fun b=>Ending.returned (.bool b)) (?_:_=_),zi _ _⟩
   simp[qb,ltk,lek,ua, *]
theorem zts {P:Program} (w:World) (x:Nat):∃ v n,(Extern.MathFloatBits.float64bits #[.float .f64 x]).run P w=.ok v (w.drewN n)∧v=.int .u64 x:=⟨_,0,rfl,rfl⟩
theorem zac {P:Program} (w:World) (n:Int):∃ v m,(Extern.MathFloatBits.float64frombits #[.int .u64 n]).run P w=.ok v (w.drewN m)∧v=.float .f64 n.toNat:=⟨_,0,rfl,rfl⟩

theorem zqs (a:Nat) (w:World):Calls Tryz.prog 259 #[.float .f64 a] w (fun e w'=>e=.returned (.float .f64 (zb0 a))∧Below w.heap.size w w'):=by
 go_enter Tryz.func259,Tryz.ntmps259
 go_wp2_with (first
  | (refine jz rfl 272 _ _ rfl rfl _ zul _ (zts _ _) ?_;rintro _ n rfl)
  | (refine jz rfl 202 _ _ rfl rfl _ zaa _ (zac _ _) ?_;rintro _ n rfl))
 go_ret
 exact⟨rfl,(by repeat' (first|exact zi _ _|refine zd ?_ _|refine Below.alloc ?_ (by simp<;>omega) _|refine zj ?_ (by simp<;>omega) _|refine za ?_ ‹_›))⟩

theorem zjf (w:World):Calls Tryz.prog 258 #[] w (Ret .f64 (vd .f64) w):=by
 go_enter Tryz.func258,Tryz.ntmps258
 go_wp2_with (first
  | (refine jz rfl 202 _ _ rfl rfl _ zaa _ (zac _ _) ?_;rintro _ n rfl))
 go_ret
 exact⟨_,rfl,by decide +kernel,(by repeat' (first|exact zi _ _|refine zd ?_ _|refine Below.alloc ?_ (by simp<;>omega) _|refine zj ?_ (by simp<;>omega) _|refine za ?_ ‹_›))⟩

theorem ziv (a:Nat) (w:World):Calls Tryz.prog 260 #[.float .f64 a] w (Ret .f64 (whole .zero (cn .f64 a)) w):=by
 go_enter Tryz.func260,Tryz.ntmps260
 go_wp2_with (refine jz rfl 273 _ _ rfl rfl _ zsh _ (zbf _ _ _ _) ?_;rintro _ n ⟨r1,rfl,hr1⟩)
 go_ret
 exact⟨_,rfl,hr1,(by repeat' (first|exact zi _ _|refine zd ?_ _|refine Below.alloc ?_ (by simp<;>omega) _|refine zj ?_ (by simp<;>omega) _|refine za ?_ ‹_›))⟩

theorem zub (a:Nat) (w:World) (hf:eqk .f32 (B .sub (cn .f32 a) (cn .f32 a)) 0=false) :
  Calls Tryz.prog 211 #[.float .f32 a] w (Ret .f32 (jr (cn .f32 a)) w):=by
 go_enter Tryz.func211,Tryz.ntmps211
 go_wp2_with (first
  | (refine vq rfl _ _ _ rfl _ rfl ?_ ?_ ?_ ?_;exact xb;exact Tryz.underlying25;(simp only[*];exact zln);intro r2 n hr2)
  | first
  | (go_at_call 150;refine (zjn _ _).mono ?_;rintro _ w1⟨rfl,hb1⟩)
  | (go_at_call 258;refine (zjf _).mono ?_;rintro _ w1⟨r1,rfl,hr1,hb1⟩)
  | (go_at_call 259;refine (zqs _ _).mono ?_;rintro _ w1⟨rfl,hb1⟩)
  | (go_at_call 260;refine (ziv _ _).mono ?_;rintro _ w1⟨r1,rfl,hr1,hb1⟩)
  | (refine zbb rfl _ _ _ rfl _ rfl ?_ ?_ u8 ?_;exact jx;exact Tryz.underlying89;intro r n hr)
  | (refine z6 rfl _ _ _ _ _ rfl _ _ _ rfl rfl rfl ?_;intro r n hr))
 go_ret
 exact⟨_,rfl,by rw[hr2];simp only[jr,hf,hr1,zq6];rfl,(by repeat' (first|exact zi _ _|refine zd ?_ _|refine Below.alloc ?_ (by simp<;>omega) _|refine zj ?_ (by simp<;>omega) _|refine za ?_ ‹_›))⟩

theorem zk9 (m:Nat) (h:m<8):wrap64 (2*(8-(m:Int))*(2*(8-(m:Int))+1))=2*(8-(m:Int))*(2*(8-(m:Int))+1):=by
 have h:m=0∨m=1∨m=2∨m=3∨m=4∨m=5∨m=6∨m=7:=by omega
 rcases h with rfl|rfl|rfl|rfl|rfl|rfl|rfl|rfl<;>(unfold wrap64;decide)

theorem zqz {r a:Nat} (hf:eqk .f32 (B .sub (cn .f32 a) (cn .f32 a)) 0=true) (hr:cn .f64 r=wid (cn .f32 a)):cn .f64 r=r :=
 xh (by rw[← jh,hr];exact zj0 hf)

set_option maxRecDepth 100000 in
theorem ztd (a:Nat) (w:World) (hf:eqk .f32 (B .sub (cn .f32 a) (cn .f32 a)) 0=true) :
  Calls Tryz.prog 211 #[.float .f32 a] w (Ret .f32 (jr (cn .f32 a)) w):=by
 go_enter Tryz.func211,Tryz.ntmps211
 go_upto_if 26 with (first
  | (go_at_call 150;refine (zjn _ _).mono ?_;rintro _ w1⟨rfl,hb1⟩)
  | (go_at_call 258;refine (zjf _).mono ?_;rintro _ w1⟨r1,rfl,hr1,hb1⟩)
  | (go_at_call 259;refine (zqs _ _).mono ?_;rintro _ w1⟨rfl,hb1⟩)
  | (go_at_call 260;refine (ziv _ _).mono ?_;rintro _ w1⟨r1,rfl,hr1,hb1⟩)
  | (refine zbb rfl _ _ _ rfl _ rfl ?_ ?_ u8 ?_;exact jx;exact Tryz.underlying89;intro r n hr)
  | (refine z6 rfl _ _ _ _ _ rfl _ _ _ rfl rfl rfl ?_;intro r n hr))
 ·go_ret
  have hg:gek .f64 (zb0 (wid (cn .f32 a))) 4841369599423283200=true:=by
   rw[← hr,zqz hf hr]
   unfold gek
   rw[Bool.or_eq_true]
   assumption
  exact⟨_,rfl,by rw[ye];simp only[jr,hf,hg,if_true],(by repeat' (first|exact zi _ _|refine zd ?_ _|refine Below.alloc ?_ (by simp<;>omega) _|refine zj ?_ (by simp<;>omega) _|refine za ?_ ‹_›))⟩
 ·have hg:gek .f64 (zb0 (wid (cn .f32 a))) 4841369599423283200=false:=by
   rw[← hr,zqz hf hr]
   unfold gek
   rw[Bool.or_eq_false_iff]
   assumption
  have hG:Hid (gek .f64 (zb0 (wid (cn .f32 a))) 4841369599423283200=false):=hg
  clear hg
  go_cut [3] (fun s3 wx=>(∃ q,s3=.float .f64 q∧cn .f64 q=zej (wid (cn .f32 a)))∧Below w.heap.size w wx)
  case first =>
   go_wp2_with (refine z6 rfl _ _ _ _ _ rfl _ _ _ rfl rfl rfl ?_;intro r n hr)
   ·go_meet
    case rel =>
     have he:=zt5 ‹(FloatKind.f64.format.order _ 0 != some .eq)=true›
     simp only[*]at he
     exact⟨⟨_,rfl,by simp only[zej,he,Bool.not_true,Bool.not_false,Bool.false_eq_true,if_true,if_false, *]⟩,(by repeat' (first|exact zi _ _|refine zd ?_ _|refine Below.alloc ?_ (by simp<;>omega) _|refine zj ?_ (by simp<;>omega) _|refine za ?_ ‹_›))⟩
   ·go_meet
    case rel =>
     have he:=zt5 ‹(FloatKind.f64.format.order _ 0 != some .eq)=false›
     simp only[*]at he
     exact⟨⟨_,rfl,by simp only[zej,he,Bool.not_true,Bool.not_false,Bool.false_eq_true,if_true,if_false, *]⟩,(by repeat' (first|exact zi _ _|refine zd ?_ _|refine Below.alloc ?_ (by simp<;>omega) _|refine zj ?_ (by simp<;>omega) _|refine za ?_ ‹_›))⟩
  case rest =>
   clear hb1
   obtain⟨⟨q1,rfl,hq1⟩,hw1⟩:=hcut
   rename World=>wc1
   go_upto_if 31 with fail
   go_cut [3] (fun s3 wx=>(∃ q,s3=.float .f64 q∧cn .f64 q=zgu (wid (cn .f32 a)))∧Below w.heap.size w wx)
   case first =>
    go_wp2_with (refine z6 rfl _ _ _ _ _ rfl _ _ _ rfl rfl rfl ?_;intro r n hr)
    ·go_meet
     case rel =>
      have he:=zfj ‹(FloatKind.f64.format.order _ 0==some .lt)=true›
      simp only[*]at he
      exact⟨⟨_,rfl,by simp only[zgu,he,zil,Bool.not_true,Bool.not_false,Bool.false_eq_true,if_true,if_false, *]⟩,(by repeat' (first|exact zi _ _|refine zd ?_ _|refine Below.alloc ?_ (by simp<;>omega) _|refine zj ?_ (by simp<;>omega) _|refine za ?_ ‹_›))⟩
    ·go_meet
     case rel =>
      have he:=zfj ‹(FloatKind.f64.format.order _ 0==some .lt)=false›
      simp only[*]at he
      exact⟨⟨_,rfl,by simp only[zgu,he,Bool.not_true,Bool.not_false,Bool.false_eq_true,if_true,if_false, *]⟩,(by repeat' (first|exact zi _ _|refine zd ?_ _|refine Below.alloc ?_ (by simp<;>omega) _|refine zj ?_ (by simp<;>omega) _|refine za ?_ ‹_›))⟩
   case rest =>
    clear hw1
    obtain⟨⟨q2,rfl,hq2⟩,hw2⟩:=hcut
    have hT:(FloatKind.f64.format.order q2 4602678819172646912==some .gt || FloatKind.f64.format.order q2 4602678819172646912==some .eq)=zcd (wid (cn .f32 a)):=by
     unfold zcd;rw[← hq2,gek_c zgv]
    have HT:Hid ((FloatKind.f64.format.order q2 4602678819172646912==some .gt || FloatKind.f64.format.order q2 4602678819172646912==some .eq)=zcd (wid (cn .f32 a))):=hT
    clear hT
    go_upto_if 36 with fail
    rw[HT.out]
    go_cut [3,5] (fun s3 s5 wx=>(∃ q,s3=.float .f64 q∧cn .f64 q=zjc (wid (cn .f32 a)))∧s5=.bool (zcd (wid (cn .f32 a)))∧Below w.heap.size w wx)
    case first =>
     cases hT:zcd (wid (cn .f32 a))
     all_goals
      have HT2:=Lib.hid hT
      clear hT
      go_wp2_with (refine z6 rfl _ _ _ _ _ rfl _ _ _ rfl rfl rfl ?_;intro r n hr)
      go_meet
      case rel=>exact⟨⟨_,rfl,by simp only[zjc,HT2.out,zgv,Bool.not_true,Bool.not_false,Bool.false_eq_true,if_true,if_false, *]⟩,by rw[HT2.out],(by repeat' (first|exact zi _ _|refine zd ?_ _|refine Below.alloc ?_ (by simp<;>omega) _|refine zj ?_ (by simp<;>omega) _|refine za ?_ ‹_›))⟩
    case rest =>
     clear hw2
     obtain⟨⟨q3,rfl,hq3⟩,rfl,hw3⟩:=hcut
     go_upto_if 40 with fail
     go_cut [3] (fun s3 wx=>(∃ q,s3=.float .f64 q∧cn .f64 q=zj3 (wid (cn .f32 a)))∧Below w.heap.size w wx)
     case first =>
      go_wp2_with (refine z6 rfl _ _ _ _ _ rfl _ _ _ rfl rfl rfl ?_;intro r n hr)
      ·go_meet
       case rel =>
        have he:=zqo zqr ‹(FloatKind.f64.format.order _ 4598175219545276416==some .gt)=true›
        simp only[*]at he
        exact⟨⟨_,rfl,by simp only[zj3,he,zgv,Bool.not_true,Bool.not_false,Bool.false_eq_true,if_true,if_false, *]⟩,(by repeat' (first|exact zi _ _|refine zd ?_ _|refine Below.alloc ?_ (by simp<;>omega) _|refine zj ?_ (by simp<;>omega) _|refine za ?_ ‹_›))⟩
      ·go_meet
       case rel =>
        have he:=zqo zqr ‹(FloatKind.f64.format.order _ 4598175219545276416==some .gt)=false›
        simp only[*]at he
        exact⟨⟨_,rfl,by simp only[zj3,he,Bool.not_true,Bool.not_false,Bool.false_eq_true,if_true,if_false, *]⟩,(by repeat' (first|exact zi _ _|refine zd ?_ _|refine Below.alloc ?_ (by simp<;>omega) _|refine zj ?_ (by simp<;>omega) _|refine za ?_ ‹_›))⟩
     case rest =>
      clear hw3
      obtain⟨⟨q4,rfl,hq4⟩,hw4⟩:=hcut
      go_wp2_with (refine z6 rfl _ _ _ _ _ rfl _ _ _ rfl rfl rfl ?_;intro r n hr)
      go_loopw [8,9] (fun p k wr=>∃ n:Nat,∃ pw,n≤8∧k=.int .i64 (8-(n:Int))∧p=.float .f64 pw∧cn .f64 pw=zfz (D .mul (zb8 (wid (cn .f32 a))) (zb8 (wid (cn .f32 a)))) n∧Below w.heap.size w wr) (fun _ k _=>(intOf k).toNat)
      case atStart=>exact⟨0,_,by omega,rfl,rfl,by rw[zil];rfl,(by repeat' (first|exact zi _ _|refine zd ?_ _|refine Below.alloc ?_ (by simp<;>omega) _|refine zj ?_ (by simp<;>omega) _|refine za ?_ ‹_›))⟩
      case round =>
       obtain⟨m,pw,hm,rfl,rfl,hp,hwr⟩:=hrel
       by_cases hlt:m<8
       ·go_wp2_with (refine z6 rfl _ _ _ _ _ rfl _ _ _ rfl rfl rfl ?_;intro r n hr)
        refine⟨⟨m+1,_,by omega,by congr 1;omega,rfl,?_,by exact zd hwr _⟩,by simp[intOf];omega⟩
        have hw6:=zk9 m hlt
        simp only[zfz,zwr,zb8,zil,ze0,zg6,D,hw6, *]
       ·obtain rfl:m=8:=by omega
        rw[show ((8:Int)-((8:Nat):Int))=0 from rfl]
        go_upto_if 67 with (refine z6 rfl _ _ _ _ _ rfl _ _ _ rfl rfl rfl ?_;intro r n hr)
        cases hT:zcd (wid (cn .f32 a))
        ·have HT2:Hid (zcd (wid (cn .f32 a))=false):=hT
         clear hT
         go_wp2_with (refine vq rfl _ _ _ rfl _ rfl ?_ ?_ ?_ ?_;exact xb;exact Tryz.underlying25;(refine (congrArg zco ?_).mpr (zf9 _ hf);simp only[zf1,HT2.out,zi5,zb8,ze0,D,Bool.false_eq_true,if_false, *]);intro r2 n2 hr2)
         go_ret
         exact⟨_,rfl,by rw[hr2];simp only[jr,hf,hG.out,zf1,HT2.out,zi5,zb8,ze0,D,Bool.false_eq_true,if_false,if_true, *],(by repeat' (first|exact zi _ _|refine zd ?_ _|refine Below.alloc ?_ (by simp<;>omega) _|refine zj ?_ (by simp<;>omega) _|refine za ?_ ‹_›))⟩
        ·have HT2:Hid (zcd (wid (cn .f32 a))=true):=hT
         clear hT
         go_wp2_with (refine vq rfl _ _ _ rfl _ rfl ?_ ?_ ?_ ?_;exact xb;exact Tryz.underlying25;(refine (congrArg zco ?_).mpr (zf9 _ hf);simp only[zf1,HT2.out,zi5,zb8,ze0,D,Bool.false_eq_true,if_false,if_true,← xo, *]);intro r2 n2 hr2)
         go_ret
         exact⟨_,rfl,by rw[hr2];simp only[jr,hf,hG.out,zf1,HT2.out,zi5,zb8,ze0,D,Bool.false_eq_true,if_false,if_true,← xo, *],(by repeat' (first|exact zi _ _|refine zd ?_ _|refine Below.alloc ?_ (by simp<;>omega) _|refine zj ?_ (by simp<;>omega) _|refine za ?_ ‹_›))⟩

theorem yh (a:Nat) (w:World):Calls Tryz.prog 211 #[.float .f32 a] w (Ret .f32 (jr (cn .f32 a)) w):=by
 cases hf:eqk .f32 (B .sub (cn .f32 a) (cn .f32 a)) 0
 ·exact zub a w hf
 ·exact ztd a w hf
def zcq (c:Nat):Nat:=if eqk .f32 (B .sub c c) 0 then (if gek .f64 (zb0 (wid c)) 4841369599423283200 then 0 else zf1 (wid c)) else vd .f64

theorem zlk (a c:Nat) (w:World) (ha:cn .f64 a=wid c) (hf:eqk .f32 (B .sub c c) 0=false) :
  Calls Tryz.prog 254 #[.float .f64 a] w (Ret .f64 (zcq c) w):=by
 have hD:eqk .f64 (D .sub (wid c) (wid c)) 0=false:=by rw[zp4];exact hf
 have HD:=Lib.hid hD
 have HF:=Lib.hid hf
 clear hD hf
 have HST:Hid (∀ r,cn .f64 r=bin .sub .f64 (cn .f64 a) (cn .f64 a)→(FloatKind.f64.format.order r 0 != some .eq)=true):=fun r hr=>by
  have h1:=HD.out
  rw[← ha,← show cn .f64 r=D .sub (cn .f64 a) (cn .f64 a) from hr,eqk,ua]at h1
  rw[bne,h1];rfl
 have HA:=Lib.hid ha
 clear ha
 go_enter Tryz.func254,Tryz.ntmps254
 go_wp2_with (first|((refine z6 rfl _ _ _ _ _ rfl _ _ _ rfl rfl rfl ?_;intro r n hr);have he:=HST.out _ hr)|(go_at_call 258;refine (zjf _).mono ?_;rintro _ w1⟨r1,rfl,hr1,hb1⟩))
 go_ret
 exact⟨_,rfl,by rw[hr1];simp only[zcq,HF.out];rfl,(by repeat' (first|exact zi _ _|refine zd ?_ _|refine Below.alloc ?_ (by simp<;>omega) _|refine zj ?_ (by simp<;>omega) _|refine za ?_ ‹_›))⟩

set_option maxRecDepth 100000 in
theorem znm (c:Nat) (w:World) (hf:eqk .f32 (B .sub c c) 0=true) :
  Calls Tryz.prog 254 #[.float .f64 (wid c)] w (Ret .f64 (zcq c) w):=by
 obtain⟨s,m,e,hx⟩:=zft hf
 obtain⟨m1,e1,hy,-⟩:=zda hx
 have hlt:=zx1 c
 have hge:=zx4 hlt hy
 have hcn:cn .f64 (wid c)=wid c:=xh (zj0 hf)
 have hti:gek .f64 (zb0 (wid c)) 4841369599423283200=false→∃ n,floatToIntVal .f64 (wid c) .i64=some n∧D .sub (wid c) (floatOfInt .f64 n)=zej (wid c):=zrb hlt hy
 have hD:eqk .f64 (D .sub (wid c) (wid c)) 0=true:=by rw[zp4];exact hf
 have HD:=Lib.hid hD
 have HF:=Lib.hid hf
 clear hD hf hx hy hlt s m e m1 e1
 have HX:Hid (∀ v,(gek .f64 (zb0 (wid c)) 4841369599423283200=true→v=0)→(gek .f64 (zb0 (wid c)) 4841369599423283200=false→v=zf1 (wid c))→v=zcq c):=fun v h1 h2=>by
  unfold zcq
  rw[HF.out,if_pos rfl]
  by_cases h:gek .f64 (zb0 (wid c)) 4841369599423283200=true
  ·rw[if_pos h];exact h1 h
  ·rw[if_neg h];exact h2 (by simpa using h)
 generalize zcq c=sx at *
 generalize wid c=y at *
 have hstart:∀ r,cn .f64 r=bin .sub .f64 (cn .f64 y) (cn .f64 y)→(FloatKind.f64.format.order r 0 != some .eq)=false:=fun r hr=>by
  have h1:=HD.out
  rw[hcn]at hr
  rw[← show cn .f64 r=D .sub y y from hr,eqk,ua]at h1
  rw[bne,h1];rfl
 cases hG:gek .f64 (zb0 y) 4841369599423283200
 ·obtain⟨nn,hnn,hs1⟩:=hti hG
  have HG:=Lib.hid hG
  rw[hG,Bool.or_eq_false_iff]at hge
  obtain⟨hg1,hg2⟩:=hge
  have HN:=Lib.hid hnn
  have HS1:=Lib.hid hs1
  have HCN:=Lib.hid hcn
  clear hG hti hnn hs1 hcn
  have HST:=Lib.hid hstart
  clear hstart
  go_enter Tryz.func254,Tryz.ntmps254
  go_upto_if 26 with (first|((refine z6 rfl _ _ _ _ _ rfl _ _ _ rfl rfl rfl ?_;intro r n hr);have he:=HST.out _ hr;clear HST)|(refine wp_op rfl (.int .i64 nn) _ (k8 _ _ _ _ _ rfl _ _ _ (run_convert_float_int _ _ _ _ _ _ _ xb Tryz.underlying2 HN.out)) ?_)|(refine z6 rfl _ _ _ _ _ rfl _ _ _ rfl rfl rfl ?_;intro r n hr))
  have hq1:cn .f64 r=zej y:=by
   rw[hr,HCN.out,zg6];exact HS1.out
  have hw1:Below w.heap.size w (w.drewN 0):=(by repeat' (first|exact zi _ _|refine zd ?_ _|refine Below.alloc ?_ (by simp<;>omega) _|refine zj ?_ (by simp<;>omega) _|refine za ?_ ‹_›))
  clear hr he hg1 hg2
  go_cut [3] (fun s3 wx=>(∃ q,s3=.float .f64 q∧cn .f64 q=zgu y)∧Below w.heap.size w wx)
  case first =>
   go_wp2_with (refine z6 rfl _ _ _ _ _ rfl _ _ _ rfl rfl rfl ?_;intro r n hr)
   ·go_meet
    case rel =>
     have he:=zfj ‹(FloatKind.f64.format.order _ 0==some .lt)=true›
     simp only[*]at he
     exact⟨⟨_,rfl,by simp only[zgu,he,zil,Bool.not_true,Bool.not_false,Bool.false_eq_true,if_true,if_false, *]⟩,(by repeat' (first|exact zi _ _|refine zd ?_ _|refine Below.alloc ?_ (by simp<;>omega) _|refine zj ?_ (by simp<;>omega) _|refine za ?_ ‹_›))⟩
   ·go_meet
    case rel =>
     have he:=zfj ‹(FloatKind.f64.format.order _ 0==some .lt)=false›
     simp only[*]at he
     exact⟨⟨_,rfl,by simp only[zgu,he,Bool.not_true,Bool.not_false,Bool.false_eq_true,if_true,if_false, *]⟩,(by repeat' (first|exact zi _ _|refine zd ?_ _|refine Below.alloc ?_ (by simp<;>omega) _|refine zj ?_ (by simp<;>omega) _|refine za ?_ ‹_›))⟩
  case rest =>
   clear hw1 hq1
   obtain⟨⟨q2,rfl,hq2⟩,hw2⟩:=hcut
   have hT:(FloatKind.f64.format.order q2 4602678819172646912==some .gt || FloatKind.f64.format.order q2 4602678819172646912==some .eq)=zcd y:=by
    unfold zcd;rw[← hq2,gek_c zgv]
   have HT:Hid ((FloatKind.f64.format.order q2 4602678819172646912==some .gt || FloatKind.f64.format.order q2 4602678819172646912==some .eq)=zcd y):=hT
   clear hT
   go_upto_if 31 with fail
   rw[HT.out]
   go_cut [3,4] (fun s3 s5 wx=>(∃ q,s3=.float .f64 q∧cn .f64 q=zjc y)∧s5=.bool (zcd y)∧Below w.heap.size w wx)
   case first =>
    cases hT:zcd y
    all_goals
     have HT2:=Lib.hid hT
     clear hT
     go_wp2_with (refine z6 rfl _ _ _ _ _ rfl _ _ _ rfl rfl rfl ?_;intro r n hr)
     go_meet
     case rel=>exact⟨⟨_,rfl,by simp only[zjc,HT2.out,zgv,Bool.not_true,Bool.not_false,Bool.false_eq_true,if_true,if_false, *]⟩,by rw[HT2.out],(by repeat' (first|exact zi _ _|refine zd ?_ _|refine Below.alloc ?_ (by simp<;>omega) _|refine zj ?_ (by simp<;>omega) _|refine za ?_ ‹_›))⟩
   case rest =>
    clear hw2
    obtain⟨⟨q3,rfl,hq3⟩,rfl,hw3⟩:=hcut
    go_upto_if 35 with fail
    go_cut [3] (fun s3 wx=>(∃ q,s3=.float .f64 q∧cn .f64 q=zj3 y)∧Below w.heap.size w wx)
    case first =>
     go_wp2_with (refine z6 rfl _ _ _ _ _ rfl _ _ _ rfl rfl rfl ?_;intro r n hr)
     ·go_meet
      case rel =>
       have he:=zqo zqr ‹(FloatKind.f64.format.order _ 4598175219545276416==some .gt)=true›
       simp only[*]at he
       exact⟨⟨_,rfl,by simp only[zj3,he,zgv,Bool.not_true,Bool.not_false,Bool.false_eq_true,if_true,if_false, *]⟩,(by repeat' (first|exact zi _ _|refine zd ?_ _|refine Below.alloc ?_ (by simp<;>omega) _|refine zj ?_ (by simp<;>omega) _|refine za ?_ ‹_›))⟩
     ·go_meet
      case rel =>
       have he:=zqo zqr ‹(FloatKind.f64.format.order _ 4598175219545276416==some .gt)=false›
       simp only[*]at he
       exact⟨⟨_,rfl,by simp only[zj3,he,zgv,Bool.not_true,Bool.not_false,Bool.false_eq_true,if_true,if_false, *]⟩,(by repeat' (first|exact zi _ _|refine zd ?_ _|refine Below.alloc ?_ (by simp<;>omega) _|refine zj ?_ (by simp<;>omega) _|refine za ?_ ‹_›))⟩
    case rest =>
     clear hw3
     obtain⟨⟨q4,rfl,hq4⟩,hw4⟩:=hcut
     go_wp2_with (refine z6 rfl _ _ _ _ _ rfl _ _ _ rfl rfl rfl ?_;intro r n hr)
     go_loopw [7,8] (fun p k wr=>∃ n:Nat,∃ pw,n≤8∧k=.int .i64 (8-(n:Int))∧p=.float .f64 pw∧cn .f64 pw=zfz (D .mul (zb8 y) (zb8 y)) n∧Below w.heap.size w wr) (fun _ k _=>(intOf k).toNat)
     case atStart=>exact⟨0,_,by omega,rfl,rfl,by rw[zil];rfl,(by repeat' (first|exact zi _ _|refine zd ?_ _|refine Below.alloc ?_ (by simp<;>omega) _|refine zj ?_ (by simp<;>omega) _|refine za ?_ ‹_›))⟩
     case round =>
      obtain⟨m,pw,hm,rfl,rfl,hp,hwr⟩:=hrel
      by_cases hlt:m<8
      ·go_wp2_with (refine z6 rfl _ _ _ _ _ rfl _ _ _ rfl rfl rfl ?_;intro r n hr)
       refine⟨⟨m+1,_,by omega,by congr 1;omega,rfl,?_,by exact zd hwr _⟩,by simp[intOf];omega⟩
       have hw6:=zk9 m hlt
       simp only[zfz,zwr,zb8,zil,ze0,zg6,D,hw6, *]
      ·obtain rfl:m=8:=by omega
       rw[show ((8:Int)-((8:Nat):Int))=0 from rfl]
       go_upto_if 59 with (refine z6 rfl _ _ _ _ _ rfl _ _ _ rfl rfl rfl ?_;intro r n hr)
       cases hT:zcd y
       ·have HT2:Hid (zcd y=false):=hT
        clear hT
        go_wp2_with (refine z6 rfl _ _ _ _ _ rfl _ _ _ rfl rfl rfl ?_;intro r n hr)
        go_ret
        exact⟨_,rfl,HX.out _ (fun h=>by rw[HG.out]at h;cases h) (fun _=>by simp only[zf1,HT2.out,zi5,zb8,ze0,D,Bool.false_eq_true,if_false, *]),(by repeat' (first|exact zi _ _|refine zd ?_ _|refine Below.alloc ?_ (by simp<;>omega) _|refine zj ?_ (by simp<;>omega) _|refine za ?_ ‹_›))⟩
       ·have HT2:Hid (zcd y=true):=hT
        clear hT
        go_wp2_with (refine z6 rfl _ _ _ _ _ rfl _ _ _ rfl rfl rfl ?_;intro r n hr)
        go_ret
        exact⟨_,rfl,HX.out _ (fun h=>by rw[HG.out]at h;cases h) (fun _=>by simp only[zf1,HT2.out,zi5,zb8,ze0,D,Bool.false_eq_true,if_false,if_true,← xo, *]),(by repeat' (first|exact zi _ _|refine zd ?_ _|refine Below.alloc ?_ (by simp<;>omega) _|refine zj ?_ (by simp<;>omega) _|refine za ?_ ‹_›))⟩
 ·have HG:=Lib.hid hG
  have HST:=Lib.hid hstart
  cases hg1:(FloatKind.f64.format.order y 4841369599423283200==some .gt || FloatKind.f64.format.order y 4841369599423283200==some .eq)
  ·have hg2:(FloatKind.f64.format.order y 14064741636278059008==some .lt || FloatKind.f64.format.order y 14064741636278059008==some .eq)=true:=by rw[hg1,hG,Bool.false_or]at hge;exact hge
   clear hG hti hstart hge hcn
   go_enter Tryz.func254,Tryz.ntmps254
   go_wp2_with (first|((refine z6 rfl _ _ _ _ _ rfl _ _ _ rfl rfl rfl ?_;intro r n hr);have he:=HST.out _ hr;clear HST)|(refine z6 rfl _ _ _ _ _ rfl _ _ _ rfl rfl rfl ?_;intro r n hr))
   go_ret
   exact⟨_,rfl,by rw[ye];exact HX.out _ (fun _=>rfl) (fun h=>by rw[HG.out]at h;cases h),(by repeat' (first|exact zi _ _|refine zd ?_ _|refine Below.alloc ?_ (by simp<;>omega) _|refine zj ?_ (by simp<;>omega) _|refine za ?_ ‹_›))⟩
  ·clear hG hti hstart hge hcn
   go_enter Tryz.func254,Tryz.ntmps254
   go_wp2_with (first|((refine z6 rfl _ _ _ _ _ rfl _ _ _ rfl rfl rfl ?_;intro r n hr);have he:=HST.out _ hr;clear HST)|(refine z6 rfl _ _ _ _ _ rfl _ _ _ rfl rfl rfl ?_;intro r n hr))
   go_ret
   exact⟨_,rfl,by rw[ye];exact HX.out _ (fun _=>rfl) (fun h=>by rw[HG.out]at h;cases h),(by repeat' (first|exact zi _ _|refine zd ?_ _|refine Below.alloc ?_ (by simp<;>omega) _|refine zj ?_ (by simp<;>omega) _|refine za ?_ ‹_›))⟩

theorem zmj (a c:Nat) (w:World) (ha:cn .f64 a=wid c):Calls Tryz.prog 254 #[.float .f64 a] w (Ret .f64 (zcq c) w):=by
 cases hf:eqk .f32 (B .sub c c) 0
 ·exact zlk a c w ha hf
 ·have h1:cn .f64 a=a:=xh (by rw[← jh,ha];exact zj0 hf)
  rw[h1]at ha
  subst ha
  exact znm c w hf

theorem zxz (c:Nat):zco (zcq c):=by
 unfold zcq
 by_cases h:eqk .f32 (B .sub c c) 0=true
 ·rw[if_pos h]
  split
  ·have h0:FloatKind.f64.decode 0=.number false 0 (-1074):=by decide +kernel
   exact zbz (b:=0) h0 (by omega) (by omega) (by unfold Ft.val;omega) (by omega)
  ·exact zf9 c h
 ·rw[if_neg h];exact zln

theorem zyj (c:Nat):nar (zcq c)=jr c:=by
 unfold zcq jr
 split
 ·split
  ·decide +kernel
  ·rfl
 ·exact zq6

theorem q7 (a:Nat) (w:World):Calls Tryz.prog 189 #[.float .f32 a] w (Ret .f32 (jr (cn .f32 a)) w):=by
 go_enter Tryz.func189,Tryz.ntmps189
 go_wp2_with (first
  | (go_at_call 254;refine (zmj _ (cn .f32 a) _ hr).mono ?_;rintro _ w1⟨r1,rfl,hr1,hb1⟩)
  | (go_at_call 253;refine (zeh _ _ (by rw[hr1];exact zxz _)).mono ?_;rintro _ w2⟨r2,rfl,hr2,hb2⟩)
  | (refine zbb rfl _ _ _ rfl _ rfl ?_ ?_ u8 ?_;exact jx;exact Tryz.underlying89;intro r n hr))
 go_ret
 exact⟨_,rfl,by rw[hr2,hr1,zyj],(by repeat' (first|exact zi _ _|refine zd ?_ _|refine Below.alloc ?_ (by simp<;>omega) _|refine zj ?_ (by simp<;>omega) _|refine za ?_ ‹_›))⟩
theorem n20:((2:Int)=0)=False:=by decide
theorem n21:((2:Int)=1)=False:=by decide
theorem n10:((1:Int)=0)=False:=by decide
theorem n01:((0:Int)=1)=False:=by decide

set_option maxRecDepth 100000 in
theorem zny (x y z t:Nat) (w:World) :
  Calls Tryz.prog 275 #[V3 x y z,.int .i64 0,F1 t] w (ut (cn .f32 x) (yr (cn .f32 t) (cn .f32 y) (cn .f32 z)) (y8 (cn .f32 t) (cn .f32 y) (cn .f32 z)) w):=by
 go_enter Tryz.func275,Tryz.ntmps275
 go_upto_region 1 with (fail)
 have Wb:Below w.heap.size w ((w.alloc (.cells #[F1 x,F1 y,F1 z] 38)).alloc (.cells #[F1 0,F1 0,F1 0] 38)):=(by repeat' (first|exact zi _ _|refine zd ?_ _|refine Below.alloc ?_ (by simp<;>omega) _|refine zj ?_ (by simp<;>omega) _|refine za ?_ ‹_›))

 have hkept:zc [(⟨w.heap.size,0,none⟩,F1 x),(⟨w.heap.size,1,none⟩,F1 y),(⟨w.heap.size,2,none⟩,F1 z),(⟨w.heap.size+1,0,none⟩,F1 0),(⟨w.heap.size+1,1,none⟩,F1 0),(⟨w.heap.size+1,2,none⟩,F1 0)] [⟨w.heap.size+1,0,none⟩,⟨w.heap.size+1,1,none⟩,⟨w.heap.size+1,2,none⟩] ((w.alloc (.cells #[F1 x,F1 y,F1 z] 38)).alloc (.cells #[F1 0,F1 0,F1 0] 38)):=by
  simp only[zc,ka,kb,zb,kfa,kga];simp
 generalize (w.alloc (.cells #[F1 x,F1 y,F1 z] 38)).alloc (.cells #[F1 0,F1 0,F1 0] 38)=W1 at Wb hkept ⊢
 have hK:=hkept
 simp only[zc,ka,kb,zb,kfa,kga]at hK
 go_wp2_with (first
  | (go_at_call 189;refine (q7 _ _).mono ?_;rintro _ w1⟨r1,rfl,hr1,hb1⟩;(first|have hkept:=keep hkept hb1|have hkept:=keep (zy hkept _) hb1|have hkept:=keep (zy (zy hkept _) _) hb1|have hkept:=keep (zy (zy (zy hkept _) _) _) hb1);replace hK:=hkept;simp only[zc,ka,kb,zb,kfa,kga]at hK)
  | (go_at_call 142;refine (xu _ _ _ _ _).mono ?_;rintro _ w1⟨rfl,hb1⟩;(first|have hkept:=keep hkept hb1|have hkept:=keep (zy hkept _) hb1|have hkept:=keep (zy (zy hkept _) _) hb1|have hkept:=keep (zy (zy (zy hkept _) _) _) hb1);replace hK:=hkept;simp only[zc,ka,kb,zb,kfa,kga]at hK)
  | (go_at_call 143;refine (vm _ _ _ _ _ _).mono ?_;rintro _ w1⟨rfl,hb1⟩;(first|have hkept:=keep hkept hb1|have hkept:=keep (zy hkept _) hb1|have hkept:=keep (zy (zy hkept _) _) hb1|have hkept:=keep (zy (zy (zy hkept _) _) _) hb1);replace hK:=hkept;simp only[zc,ka,kb,zb,kfa,kga]at hK)
  | (refine z6 rfl _ _ _ _ _ rfl _ _ _ rfl rfl rfl ?_;intro r n hr))
 exact bodyPost_ret (v:=.agg #[F1 _,F1 _,F1 _]) (by simp[results,Tryz.results275,go_sem,hK];exact⟨rfl,rfl,rfl⟩) rfl ⟨_,_,_,rfl,by simp only[xx,xt,xy,y9,n20,n21,n10,n01,if_true,if_false,yr,y8,xe, *];done,by simp only[xx,xt,xy,y9,n20,n21,n10,n01,if_true,if_false,yr,y8,xe, *];done,by simp only[xx,xt,xy,y9,n20,n21,n10,n01,if_true,if_false,yr,y8,xe, *];done,(by repeat' (first|exact zi _ _|refine zd ?_ _|refine Below.alloc ?_ (by simp<;>omega) _|refine zj ?_ (by simp<;>omega) _|refine za ?_ ‹_›))⟩

set_option maxRecDepth 100000 in
theorem znz (x y z t:Nat) (w:World) :
  Calls Tryz.prog 275 #[V3 x y z,.int .i64 1,F1 t] w (ut (y8 (cn .f32 t) (cn .f32 z) (cn .f32 x)) (cn .f32 y) (yr (cn .f32 t) (cn .f32 z) (cn .f32 x)) w):=by
 go_enter Tryz.func275,Tryz.ntmps275
 go_upto_region 1 with (fail)
 have Wb:Below w.heap.size w ((w.alloc (.cells #[F1 x,F1 y,F1 z] 38)).alloc (.cells #[F1 0,F1 0,F1 0] 38)):=(by repeat' (first|exact zi _ _|refine zd ?_ _|refine Below.alloc ?_ (by simp<;>omega) _|refine zj ?_ (by simp<;>omega) _|refine za ?_ ‹_›))

 have hkept:zc [(⟨w.heap.size,0,none⟩,F1 x),(⟨w.heap.size,1,none⟩,F1 y),(⟨w.heap.size,2,none⟩,F1 z),(⟨w.heap.size+1,0,none⟩,F1 0),(⟨w.heap.size+1,1,none⟩,F1 0),(⟨w.heap.size+1,2,none⟩,F1 0)] [⟨w.heap.size+1,0,none⟩,⟨w.heap.size+1,1,none⟩,⟨w.heap.size+1,2,none⟩] ((w.alloc (.cells #[F1 x,F1 y,F1 z] 38)).alloc (.cells #[F1 0,F1 0,F1 0] 38)):=by
  simp only[zc,ka,kb,zb,kfa,kga];simp
 generalize (w.alloc (.cells #[F1 x,F1 y,F1 z] 38)).alloc (.cells #[F1 0,F1 0,F1 0] 38)=W1 at Wb hkept ⊢
 have hK:=hkept
 simp only[zc,ka,kb,zb,kfa,kga]at hK
 go_wp2_with (first
  | (go_at_call 189;refine (q7 _ _).mono ?_;rintro _ w1⟨r1,rfl,hr1,hb1⟩;(first|have hkept:=keep hkept hb1|have hkept:=keep (zy hkept _) hb1|have hkept:=keep (zy (zy hkept _) _) hb1|have hkept:=keep (zy (zy (zy hkept _) _) _) hb1);replace hK:=hkept;simp only[zc,ka,kb,zb,kfa,kga]at hK)
  | (go_at_call 142;refine (xu _ _ _ _ _).mono ?_;rintro _ w1⟨rfl,hb1⟩;(first|have hkept:=keep hkept hb1|have hkept:=keep (zy hkept _) hb1|have hkept:=keep (zy (zy hkept _) _) hb1|have hkept:=keep (zy (zy (zy hkept _) _) _) hb1);replace hK:=hkept;simp only[zc,ka,kb,zb,kfa,kga]at hK)
  | (go_at_call 143;refine (vm _ _ _ _ _ _).mono ?_;rintro _ w1⟨rfl,hb1⟩;(first|have hkept:=keep hkept hb1|have hkept:=keep (zy hkept _) hb1|have hkept:=keep (zy (zy hkept _) _) hb1|have hkept:=keep (zy (zy (zy hkept _) _) _) hb1);replace hK:=hkept;simp only[zc,ka,kb,zb,kfa,kga]at hK)
  | (refine z6 rfl _ _ _ _ _ rfl _ _ _ rfl rfl rfl ?_;intro r n hr))
 exact bodyPost_ret (v:=.agg #[F1 _,F1 _,F1 _]) (by simp[results,Tryz.results275,go_sem,hK];exact⟨rfl,rfl,rfl⟩) rfl ⟨_,_,_,rfl,by simp only[xx,xt,xy,y9,n20,n21,n10,n01,if_true,if_false,yr,y8,xe, *];done,by simp only[xx,xt,xy,y9,n20,n21,n10,n01,if_true,if_false,yr,y8,xe, *];done,by simp only[xx,xt,xy,y9,n20,n21,n10,n01,if_true,if_false,yr,y8,xe, *];done,(by repeat' (first|exact zi _ _|refine zd ?_ _|refine Below.alloc ?_ (by simp<;>omega) _|refine zj ?_ (by simp<;>omega) _|refine za ?_ ‹_›))⟩

set_option maxRecDepth 100000 in
theorem zn7 (x y z t:Nat) (w:World) :
  Calls Tryz.prog 275 #[V3 x y z,.int .i64 2,F1 t] w (ut (yr (cn .f32 t) (cn .f32 x) (cn .f32 y)) (y8 (cn .f32 t) (cn .f32 x) (cn .f32 y)) (cn .f32 z) w):=by
 go_enter Tryz.func275,Tryz.ntmps275
 go_upto_region 1 with (fail)
 have Wb:Below w.heap.size w ((w.alloc (.cells #[F1 x,F1 y,F1 z] 38)).alloc (.cells #[F1 0,F1 0,F1 0] 38)):=(by repeat' (first|exact zi _ _|refine zd ?_ _|refine Below.alloc ?_ (by simp<;>omega) _|refine zj ?_ (by simp<;>omega) _|refine za ?_ ‹_›))

 have hkept:zc [(⟨w.heap.size,0,none⟩,F1 x),(⟨w.heap.size,1,none⟩,F1 y),(⟨w.heap.size,2,none⟩,F1 z),(⟨w.heap.size+1,0,none⟩,F1 0),(⟨w.heap.size+1,1,none⟩,F1 0),(⟨w.heap.size+1,2,none⟩,F1 0)] [⟨w.heap.size+1,0,none⟩,⟨w.heap.size+1,1,none⟩,⟨w.heap.size+1,2,none⟩] ((w.alloc (.cells #[F1 x,F1 y,F1 z] 38)).alloc (.cells #[F1 0,F1 0,F1 0] 38)):=by
  simp only[zc,ka,kb,zb,kfa,kga];simp
 generalize (w.alloc (.cells #[F1 x,F1 y,F1 z] 38)).alloc (.cells #[F1 0,F1 0,F1 0] 38)=W1 at Wb hkept ⊢
 have hK:=hkept
 simp only[zc,ka,kb,zb,kfa,kga]at hK
 go_wp2_with (first
  | (go_at_call 189;refine (q7 _ _).mono ?_;rintro _ w1⟨r1,rfl,hr1,hb1⟩;(first|have hkept:=keep hkept hb1|have hkept:=keep (zy hkept _) hb1|have hkept:=keep (zy (zy hkept _) _) hb1|have hkept:=keep (zy (zy (zy hkept _) _) _) hb1);replace hK:=hkept;simp only[zc,ka,kb,zb,kfa,kga]at hK)
  | (go_at_call 142;refine (xu _ _ _ _ _).mono ?_;rintro _ w1⟨rfl,hb1⟩;(first|have hkept:=keep hkept hb1|have hkept:=keep (zy hkept _) hb1|have hkept:=keep (zy (zy hkept _) _) hb1|have hkept:=keep (zy (zy (zy hkept _) _) _) hb1);replace hK:=hkept;simp only[zc,ka,kb,zb,kfa,kga]at hK)
  | (go_at_call 143;refine (vm _ _ _ _ _ _).mono ?_;rintro _ w1⟨rfl,hb1⟩;(first|have hkept:=keep hkept hb1|have hkept:=keep (zy hkept _) hb1|have hkept:=keep (zy (zy hkept _) _) hb1|have hkept:=keep (zy (zy (zy hkept _) _) _) hb1);replace hK:=hkept;simp only[zc,ka,kb,zb,kfa,kga]at hK)
  | (refine z6 rfl _ _ _ _ _ rfl _ _ _ rfl rfl rfl ?_;intro r n hr))
 exact bodyPost_ret (v:=.agg #[F1 _,F1 _,F1 _]) (by simp[results,Tryz.results275,go_sem,hK];exact⟨rfl,rfl,rfl⟩) rfl ⟨_,_,_,rfl,by simp only[xx,xt,xy,y9,n20,n21,n10,n01,if_true,if_false,yr,y8,xe, *];done,by simp only[xx,xt,xy,y9,n20,n21,n10,n01,if_true,if_false,yr,y8,xe, *];done,by simp only[xx,xt,xy,y9,n20,n21,n10,n01,if_true,if_false,yr,y8,xe, *];done,(by repeat' (first|exact zi _ _|refine zd ?_ _|refine Below.alloc ?_ (by simp<;>omega) _|refine zj ?_ (by simp<;>omega) _|refine za ?_ ‹_›))⟩
end Go.Proofs.YtbiacfkiakddiaaGreat
