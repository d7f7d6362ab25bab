/-
 Lemmas: Wi,X1,X7,X5,Y1,Y4,Y13,Y8,Y15.
-/
import Derived.Test.YtbiacfkiakddiaaGreatXal
set_option linter.unusedVariables false
set_option linter.unusedSimpArgs false
set_option maxHeartbeats 2000000
namespace Go.Proofs.YtbiacfkiakddiaaGreat
open Go.RowKit Go.Fl
theorem zol (a:Nat) (w:World) :
  Calls Tryz.prog 131 #[I64 a] w (fun e w'=>e=.returned (.bool (a != 1))∧Below w.heap.size w w'):=by
 go_enter Tryz.func131,Tryz.ntmps131
 by_cases h:a=1
 ·subst h
  go_wp2_with fail
  go_ret
  exact⟨rfl,zi _ _⟩
 ·have h2:(a != 1)=true:=by simpa using h
  have h3:(((a:Int)) != 1)=true:=by simp;omega
  rw[h2]
  go_wp2_with fail
  go_ret
  exact⟨rfl,zi _ _⟩

set_option maxRecDepth 100000 in
theorem zsv (p:Nat→Bool) (xs:List Nat) (bp:Option Addr) (bv ov cap:Nat) (w:World) (h1:xs ≠ []→bp=some ⟨bv,ov,none⟩) (h2:∀ i (h:i<xs.length),w.cell? ⟨bv,ov+i,none⟩=some (I64 xs[i])) (hl:xs.length<10000000)
  (hcall:∀ (x:Nat) w',Below w.heap.size w w'→Calls Tryz.prog 131 #[I64 x] w' (fun e w''=>e=.returned (.bool (p x))∧Below w'.heap.size w' w'')) :
  Calls Tryz.prog 207 #[.slice bp xs.length cap,.func (.func 131) #[] #[]] w (fun e w'=>∃ r:Int,e=.returned (.int .i64 r)∧decide (0≤r)=xs.any p∧Below w.heap.size w w'):=by
 go_enter Tryz.func207,Tryz.ntmps207
 go_wp2_with fail
 go_loopw [8] (fun i wr=>∃ m:Nat,m≤xs.length∧i=.int .i64 (m:Int)∧(xs.take m).any p=false∧Below w.heap.size w wr) (fun i _=>xs.length-(intOf i).toNat)
 case atStart=>exact⟨0,by omega,rfl,rfl,(by repeat' (first|exact zi _ _|refine zd ?_ _|refine Below.alloc ?_ (by simp<;>omega) _|refine zj ?_ (by simp<;>omega) _|refine za ?_ ‹_›))⟩
 case round =>
  obtain⟨m,hm,rfl,hany,hwr⟩:=hrel
  by_cases hlt:m<xs.length
  ·have hne:xs ≠ []:=by intro h;rw[h]at hlt;simp at hlt
   have hc:=h2 m hlt
   have hlt':(m:Int)<(xs.length:Int):=by omega
   have h0:(0:Int)≤(m:Int):=by omega
   have hc':wr.cell? ⟨bv,ov+m,none⟩=some (I64 xs[m]):=by rw[yc hwr _ (by rw[hc];rfl)];exact hc
   have hbp:=h1 hne
   subst hbp
   clear h1 h2 hc
   go_wp2_with fail
   refine (hcall _ _ hwr).mono ?_
   rintro _ w2⟨rfl,hb2⟩
   have hwr2:=za hwr hb2
   cases hp:p xs[m]
   ·go_wp2_with fail
    refine⟨⟨m+1,by omega,by simp,j8 p xs m hlt hany hp,hwr2⟩,by simp[intOf];omega⟩
   ·go_wp2_with fail
    go_ret
    refine⟨_,rfl,?_,hwr2⟩
    rw[show xs.any p=true from List.any_eq_true.2 ⟨xs[m],List.getElem_mem _,hp⟩]
    simp
  ·obtain rfl:m=xs.length:=by omega
   go_wp2_with fail
   go_ret
   exact⟨_,rfl,by rw[List.take_length]at hany;rw[hany];rfl,hwr⟩
set_option maxRecDepth 100000 in
theorem zj9 (p:Nat→Bool) (xs:List Nat) (bp:Option Addr) (bv ov cap:Nat) (w:World) (h1:xs ≠ []→bp=some ⟨bv,ov,none⟩) (h2:∀ i (h:i<xs.length),w.cell? ⟨bv,ov+i,none⟩=some (I64 xs[i])) (hl:xs.length<10000000)
  (hcall:∀ (x:Nat) w',Below w.heap.size w w'→Calls Tryz.prog 131 #[I64 x] w' (fun e w''=>e=.returned (.bool (p x))∧Below w'.heap.size w' w'')) :
  Calls Tryz.prog 130 #[.slice bp xs.length cap,.func (.func 131) #[] #[]] w (fun e w'=>e=.returned (.bool (xs.any p))∧Below w.heap.size w w'):=by
 have hi:=zsv p xs bp bv ov cap w h1 h2 hl hcall
 clear h1 h2 hcall
 go_enter Tryz.func130,Tryz.ntmps130
 go_wp2_with fail
 refine hi.mono ?_
 rintro _ w2⟨r,rfl,hr,hb2⟩
 cases ha:xs.any p
 ·rw[ha]at hr
  have hr':r<0:=by simpa using hr
  go_wp2_with fail
  go_ret
  exact⟨by rw[ha];rfl,hb2⟩
 ·rw[ha]at hr
  have hr':0≤r:=by simpa using hr
  go_wp2_with fail
  go_ret
  exact⟨by rw[ha];rfl,hb2⟩

end Go.Proofs.YtbiacfkiakddiaaGreat

namespace Go.Proofs.YtbiacfkiakddiaaGreat
open Go.RowKit Go.Fl
theorem zw9 (a b c d e f:Nat) (w:World) :
  Calls Tryz.prog 232 #[.agg #[.float .f32 a,.float .f32 b,.float .f32 c],.agg #[.float .f32 d,.float .f32 e,.float .f32 f]] w
   (ut (B .add (cn .f32 a) (cn .f32 d)) (B .add (cn .f32 b) (cn .f32 e)) (B .add (cn .f32 c) (cn .f32 f)) w):=by
 go_enter Tryz.func232,Tryz.ntmps232
 go_wp2_with (refine z6 rfl _ _ _ _ _ rfl _ _ _ rfl rfl rfl ?_;intro r n hr)
 exact bodyPost_ret (v:=.agg #[.float .f32 _,.float .f32 _,.float .f32 _]) (by simp[results,Tryz.results232,go_sem];exact⟨rfl,rfl,rfl⟩) rfl ⟨_,_,_,rfl,by assumption,by assumption,by assumption,(by repeat' (first|exact zi _ _|refine zd ?_ _|refine Below.alloc ?_ (by simp<;>omega) _|refine zj ?_ (by simp<;>omega) _|refine za ?_ ‹_›))⟩

theorem zsf (a b c d:Nat) (w:World) :
  Calls Tryz.prog 233 #[.agg #[.float .f32 a,.float .f32 b,.float .f32 c],.float .f32 d] w
   (ut (B .mul (cn .f32 a) (cn .f32 d)) (B .mul (cn .f32 b) (cn .f32 d)) (B .mul (cn .f32 c) (cn .f32 d)) w):=by
 go_enter Tryz.func233,Tryz.ntmps233
 go_wp2_with (refine z6 rfl _ _ _ _ _ rfl _ _ _ rfl rfl rfl ?_;intro r n hr)
 exact bodyPost_ret (v:=.agg #[.float .f32 _,.float .f32 _,.float .f32 _]) (by simp[results,Tryz.results233,go_sem];exact⟨rfl,rfl,rfl⟩) rfl ⟨_,_,_,rfl,by assumption,by assumption,by assumption,(by repeat' (first|exact zi _ _|refine zd ?_ _|refine Below.alloc ?_ (by simp<;>omega) _|refine zj ?_ (by simp<;>omega) _|refine za ?_ ‹_›))⟩

theorem zrc (a b c d e f:Nat) (w:World) :
  Calls Tryz.prog 228 #[.agg #[.float .f32 a,.float .f32 b,.float .f32 c],.agg #[.float .f32 d,.float .f32 e,.float .f32 f]] w
   (ut (B .add (cn .f32 a) (cn .f32 d)) (B .add (cn .f32 b) (cn .f32 e)) (B .add (cn .f32 c) (cn .f32 f)) w):=by
 go_enter Tryz.func228,Tryz.ntmps228
 go_wp2_with (refine z6 rfl _ _ _ _ _ rfl _ _ _ rfl rfl rfl ?_;intro r n hr)
 exact bodyPost_ret (v:=.agg #[.float .f32 _,.float .f32 _,.float .f32 _]) (by simp[results,Tryz.results228,go_sem];exact⟨rfl,rfl,rfl⟩) rfl ⟨_,_,_,rfl,by assumption,by assumption,by assumption,(by repeat' (first|exact zi _ _|refine zd ?_ _|refine Below.alloc ?_ (by simp<;>omega) _|refine zj ?_ (by simp<;>omega) _|refine za ?_ ‹_›))⟩

theorem zmv (a b c d:Nat) (w:World) :
  Calls Tryz.prog 229 #[.agg #[.float .f32 a,.float .f32 b,.float .f32 c],.float .f32 d] w
   (ut (B .mul (cn .f32 a) (cn .f32 d)) (B .mul (cn .f32 b) (cn .f32 d)) (B .mul (cn .f32 c) (cn .f32 d)) w):=by
 go_enter Tryz.func229,Tryz.ntmps229
 go_wp2_with (refine z6 rfl _ _ _ _ _ rfl _ _ _ rfl rfl rfl ?_;intro r n hr)
 exact bodyPost_ret (v:=.agg #[.float .f32 _,.float .f32 _,.float .f32 _]) (by simp[results,Tryz.results229,go_sem];exact⟨rfl,rfl,rfl⟩) rfl ⟨_,_,_,rfl,by assumption,by assumption,by assumption,(by repeat' (first|exact zi _ _|refine zd ?_ _|refine Below.alloc ?_ (by simp<;>omega) _|refine zj ?_ (by simp<;>omega) _|refine za ?_ ‹_›))⟩

end Go.Proofs.YtbiacfkiakddiaaGreat

namespace Go.Proofs.YtbiacfkiakddiaaGreat
open Go.RowKit Go.Fl
def zb7 (a b h:Nat):Nat:=B .add a (B .mul (B .sub b a) h)

inductive PhiBw (fl fs fa:FuncId):FuncId→Array Value→Value→Prop
 | less (x y z x' y' z' a b c:Nat) (h1:cn .f32 a=B .sub (cn .f32 x) (cn .f32 x')) (h2:cn .f32 b=B .sub (cn .f32 y) (cn .f32 y')) (h3:cn .f32 c=B .sub (cn .f32 z) (cn .f32 z')):PhiBw fl fs fa fl #[V3 x y z,V3 x' y' z'] (V3 a b c)
 | scale (x y z f a b c:Nat) (h1:cn .f32 a=B .mul (cn .f32 x) (cn .f32 f)) (h2:cn .f32 b=B .mul (cn .f32 y) (cn .f32 f)) (h3:cn .f32 c=B .mul (cn .f32 z) (cn .f32 f)):PhiBw fl fs fa fs #[V3 x y z,F1 f] (V3 a b c)
 | add (x y z x' y' z' a b c:Nat) (h1:cn .f32 a=B .add (cn .f32 x) (cn .f32 x')) (h2:cn .f32 b=B .add (cn .f32 y) (cn .f32 y')) (h3:cn .f32 c=B .add (cn .f32 z) (cn .f32 z')):PhiBw fl fs fa fa #[V3 x y z,V3 x' y' z'] (V3 a b c)

set_option maxRecDepth 100000 in
theorem zld (x y z x' y' z' h:Nat) (w:World) :
  Calls Tryz.prog 147 #[V3 x y z,V3 x' y' z',F1 h] w (ut (zb7 (cn .f32 x) (cn .f32 x') (cn .f32 h)) (zb7 (cn .f32 y) (cn .f32 y') (cn .f32 h)) (zb7 (cn .f32 z) (cn .f32 z') (cn .f32 h)) w):=by
 go_enter Tryz.func147,Tryz.ntmps147
 go_wp2_with fail
 have W1b:Below w.heap.size w (((w.alloc (.cells #[F1 x,F1 y,F1 z] 38)).alloc (.cells #[F1 x',F1 y',F1 z'] 38)).alloc (.cells #[F1 0,F1 0,F1 0] 38)):=(by repeat' (first|exact zi _ _|refine zd ?_ _|refine Below.alloc ?_ (by simp<;>omega) _|refine zj ?_ (by simp<;>omega) _|refine za ?_ ‹_›))

 have hkept:zc [(⟨w.heap.size,0,none⟩,F1 x),(⟨w.heap.size,1,none⟩,F1 y),(⟨w.heap.size,2,none⟩,F1 z),(⟨w.heap.size+1,0,none⟩,F1 x'),(⟨w.heap.size+1,1,none⟩,F1 y'),(⟨w.heap.size+1,2,none⟩,F1 z'),(⟨w.heap.size+1+1,0,none⟩,F1 0),(⟨w.heap.size+1+1,1,none⟩,F1 0),(⟨w.heap.size+1+1,2,none⟩,F1 0)] [⟨w.heap.size+1+1,0,none⟩,⟨w.heap.size+1+1,1,none⟩,⟨w.heap.size+1+1,2,none⟩] (((w.alloc (.cells #[F1 x,F1 y,F1 z] 38)).alloc (.cells #[F1 x',F1 y',F1 z'] 38)).alloc (.cells #[F1 0,F1 0,F1 0] 38)):=by
  simp only[zc,ka,kb,zb,kfa,kga];(first|(go_simp;done)|(simp[World.cell?,World.frozen?,World.alloc,Array.getElem?_push];done))
 generalize ((w.alloc (.cells #[F1 x,F1 y,F1 z] 38)).alloc (.cells #[F1 x',F1 y',F1 z'] 38)).alloc (.cells #[F1 0,F1 0,F1 0] 38)=W1 at *
 refine Qr.wp_below 7 (by kernel_rfl) (by kernel_rfl) (PhiBw 178 233 232) ?_
 repeat (refine Qr.walk_plain rfl fun K hK=>?_;(first|(apply Qr.one_det;(focus (intro w' hw';have HK:=keep hkept hw';simp only[zc,ka,kb,zb,kfa,kga]at HK;go_simp;first|done|rfl)))|(apply Qr.one_call;(focus (intro w' hw';go_simp;first|done|exact⟨rfl,rfl⟩));(focus (intro w' hw';first|(go_at_call 178;refine (yj _ _ _ _ _ _ _).mono ?_;rintro _ w3⟨r1,r2,r3,rfl,hr1,hr2,hr3,hb1⟩;exact⟨_,rfl,PhiBw.less _ _ _ _ _ _ _ _ _ hr1 hr2 hr3,za hw' ‹_›,by assumption⟩)|(go_at_call 233;refine (zsf _ _ _ _ _).mono ?_;rintro _ w3⟨r1,r2,r3,rfl,hr1,hr2,hr3,hb1⟩;exact⟨_,rfl,PhiBw.scale _ _ _ _ _ _ _ hr1 hr2 hr3,za hw' ‹_›,by assumption⟩)|(go_at_call 232;refine (zw9 _ _ _ _ _ _ _).mono ?_;rintro _ w3⟨r1,r2,r3,rfl,hr1,hr2,hr3,hb1⟩;exact⟨_,rfl,PhiBw.add _ _ _ _ _ _ _ _ _ hr1 hr2 hr3,za hw' ‹_›,by assumption⟩)));intro v hv;cases hv));go_simp;refine hK _ ?_;clear hK K)
 rename_i a1 b1 c1 g1 g2 g3 a2 b2 c2 g4 g5 g6 a3 b3 c3 g7 g8 g9
 refine Qr.walk_nil fun w5 hw5=>?_
 have W5b:=za W1b hw5
 have hK:=keep hkept hw5
 simp only[zc,ka,kb,zb,kfa,kga]at hK
 have e1:cn .f32 a3=zb7 (cn .f32 x) (cn .f32 x') (cn .f32 h):=by rw[g7,g4,g1];rfl
 have e2:cn .f32 b3=zb7 (cn .f32 y) (cn .f32 y') (cn .f32 h):=by rw[g8,g5,g2];rfl
 have e3:cn .f32 c3=zb7 (cn .f32 z) (cn .f32 z') (cn .f32 h):=by rw[g9,g6,g3];rfl
 clear g1 g2 g3 g4 g5 g6 g7 g8 g9 hkept
 go_wp2_with fail
 exact bodyPost_ret (v:=.agg #[F1 a3,F1 b3,F1 c3]) (by simp[results,Tryz.results147,go_sem,hK,zf,zh]) rfl ⟨_,_,_,rfl,e1,e2,e3,((W5b.setCell (by show w.heap.size≤w.heap.size+1+1;omega) _).setCell (by show w.heap.size≤w.heap.size+1+1;omega) _).setCell (by show w.heap.size≤w.heap.size+1+1;omega) _⟩
set_option maxRecDepth 100000 in
theorem zhn (x y z x' y' z' h:Nat) (w:World) :
  Calls Tryz.prog 145 #[V3 x y z,V3 x' y' z',F1 h] w (ut (zb7 (cn .f32 x) (cn .f32 x') (cn .f32 h)) (zb7 (cn .f32 y) (cn .f32 y') (cn .f32 h)) (zb7 (cn .f32 z) (cn .f32 z') (cn .f32 h)) w):=by
 go_enter Tryz.func145,Tryz.ntmps145
 go_wp2_with fail
 have W1b:Below w.heap.size w (((w.alloc (.cells #[F1 x,F1 y,F1 z] 38)).alloc (.cells #[F1 x',F1 y',F1 z'] 38)).alloc (.cells #[F1 0,F1 0,F1 0] 38)):=(by repeat' (first|exact zi _ _|refine zd ?_ _|refine Below.alloc ?_ (by simp<;>omega) _|refine zj ?_ (by simp<;>omega) _|refine za ?_ ‹_›))

 have hkept:zc [(⟨w.heap.size,0,none⟩,F1 x),(⟨w.heap.size,1,none⟩,F1 y),(⟨w.heap.size,2,none⟩,F1 z),(⟨w.heap.size+1,0,none⟩,F1 x'),(⟨w.heap.size+1,1,none⟩,F1 y'),(⟨w.heap.size+1,2,none⟩,F1 z'),(⟨w.heap.size+1+1,0,none⟩,F1 0),(⟨w.heap.size+1+1,1,none⟩,F1 0),(⟨w.heap.size+1+1,2,none⟩,F1 0)] [⟨w.heap.size+1+1,0,none⟩,⟨w.heap.size+1+1,1,none⟩,⟨w.heap.size+1+1,2,none⟩] (((w.alloc (.cells #[F1 x,F1 y,F1 z] 38)).alloc (.cells #[F1 x',F1 y',F1 z'] 38)).alloc (.cells #[F1 0,F1 0,F1 0] 38)):=by
  simp only[zc,ka,kb,zb,kfa,kga];(first|(go_simp;done)|(simp[World.cell?,World.frozen?,World.alloc,Array.getElem?_push];done))
 generalize ((w.alloc (.cells #[F1 x,F1 y,F1 z] 38)).alloc (.cells #[F1 x',F1 y',F1 z'] 38)).alloc (.cells #[F1 0,F1 0,F1 0] 38)=W1 at *
 refine Qr.wp_below 7 (by kernel_rfl) (by kernel_rfl) (PhiBw 167 229 228) ?_
 repeat (refine Qr.walk_plain rfl fun K hK=>?_;(first|(apply Qr.one_det;(focus (intro w' hw';have HK:=keep hkept hw';simp only[zc,ka,kb,zb,kfa,kga]at HK;go_simp;first|done|rfl)))|(apply Qr.one_call;(focus (intro w' hw';go_simp;first|done|exact⟨rfl,rfl⟩));(focus (intro w' hw';first|(go_at_call 167;refine (uo _ _ _ _ _ _ _).mono ?_;rintro _ w3⟨r1,r2,r3,rfl,hr1,hr2,hr3,hb1⟩;exact⟨_,rfl,PhiBw.less _ _ _ _ _ _ _ _ _ hr1 hr2 hr3,za hw' ‹_›,by assumption⟩)|(go_at_call 229;refine (zmv _ _ _ _ _).mono ?_;rintro _ w3⟨r1,r2,r3,rfl,hr1,hr2,hr3,hb1⟩;exact⟨_,rfl,PhiBw.scale _ _ _ _ _ _ _ hr1 hr2 hr3,za hw' ‹_›,by assumption⟩)|(go_at_call 228;refine (zrc _ _ _ _ _ _ _).mono ?_;rintro _ w3⟨r1,r2,r3,rfl,hr1,hr2,hr3,hb1⟩;exact⟨_,rfl,PhiBw.add _ _ _ _ _ _ _ _ _ hr1 hr2 hr3,za hw' ‹_›,by assumption⟩)));intro v hv;cases hv));go_simp;refine hK _ ?_;clear hK K)
 rename_i a1 b1 c1 g1 g2 g3 a2 b2 c2 g4 g5 g6 a3 b3 c3 g7 g8 g9
 refine Qr.walk_nil fun w5 hw5=>?_
 have W5b:=za W1b hw5
 have hK:=keep hkept hw5
 simp only[zc,ka,kb,zb,kfa,kga]at hK
 have e1:cn .f32 a3=zb7 (cn .f32 x) (cn .f32 x') (cn .f32 h):=by rw[g7,g4,g1];rfl
 have e2:cn .f32 b3=zb7 (cn .f32 y) (cn .f32 y') (cn .f32 h):=by rw[g8,g5,g2];rfl
 have e3:cn .f32 c3=zb7 (cn .f32 z) (cn .f32 z') (cn .f32 h):=by rw[g9,g6,g3];rfl
 clear g1 g2 g3 g4 g5 g6 g7 g8 g9 hkept
 go_wp2_with fail
 exact bodyPost_ret (v:=.agg #[F1 a3,F1 b3,F1 c3]) (by simp[results,Tryz.results145,go_sem,hK,zf,zh]) rfl ⟨_,_,_,rfl,e1,e2,e3,((W5b.setCell (by show w.heap.size≤w.heap.size+1+1;omega) _).setCell (by show w.heap.size≤w.heap.size+1+1;omega) _).setCell (by show w.heap.size≤w.heap.size+1+1;omega) _⟩
end Go.Proofs.YtbiacfkiakddiaaGreat

namespace Go.Proofs.YtbiacfkiakddiaaGreat
open Go.RowKit Go.Fl Ieee
theorem ztf (a b:Int):(some (compare a b)==some Ordering.lt)=(some (compare b a)==some Ordering.gt):=by
 have h:compare a b=.lt↔compare b a=.gt:=by rw[Ft.cmp_lt,Ft.cmp_gt]
 cases h1:compare a b<;>cases h2:compare b a<;>simp_all

theorem zn9 (d e:Datum):(d.order e==some .lt)=(e.order d==some .gt):=by
 cases d with
 | nan s t=>cases e<;>rfl
 | infinity s =>
  cases e with
  | nan u v=>cases s<;>rfl
  | infinity u=>cases s<;>cases u<;>rfl
  | number u n j=>cases s<;>rfl
 | number s m i =>
  cases e with
  | nan u v=>rfl
  | infinity u=>cases u<;>rfl
  | number u n j =>
   show (some (compare _ _)==some Ordering.lt)=(some (compare _ _)==some Ordering.gt)
   rw[ztf,Int.min_comm]

end Go.Proofs.YtbiacfkiakddiaaGreat

namespace Go.Proofs.YtbiacfkiakddiaaGreat
open Go.RowKit Go.Fl
def zba (x:Nat):Bool:=eqk .f32 (B .sub x x) 0
def zdw (p:Nat × Nat × Nat):Bool:=zba p.1 && zba p.2.1 && zba p.2.2
theorem zx9 {cs:List (Addr × Value)} {fs:List Addr} {W W':World} (h:zc cs fs W) (e:W'.heap=W.heap):zc cs fs W':=by
 obtain⟨h1,h2⟩:=h
 have hc:∀ a,W'.cell? a=W.cell? a:=fun a=>by unfold World.cell?;rw[e]
 have hf:∀ a,W'.frozen? a=W.frozen? a:=fun a=>by unfold World.frozen?;rw[e]
 exact⟨fun p hp=>by rw[hc];exact h1 p hp,fun a ha=>by rw[hc,hf];exact h2 a ha⟩
theorem zn {cs:List (Addr × Value)} {fs:List Addr} {W X w:World} (h:zc cs fs W) (hb:Below X.heap.size X w) (e:X.heap=W.heap):zc cs fs w:=keep (zx9 h e) hb

theorem zpg (x y z:Nat) (w:World) :
  Calls Tryz.prog 121 #[V3 x y z] w (fun e w'=>e=.returned (.bool (zdw (cn .f32 x,cn .f32 y,cn .f32 z)))∧Below w.heap.size w w'):=by
 obtain⟨b,hb⟩:∃ b,Hid (zdw (cn .f32 x,cn .f32 y,cn .f32 z)=b):=⟨_,rfl⟩
 rw[hb.out]
 have hbo:=hb.out
 unfold zdw zba at hbo
 have hb:=Lib.hid hbo
 clear hbo
 cases h1:eqk .f32 (B .sub (cn .f32 x) (cn .f32 x)) 0<;>cases h2:eqk .f32 (B .sub (cn .f32 y) (cn .f32 y)) 0<;>cases h3:eqk .f32 (B .sub (cn .f32 z) (cn .f32 z)) 0
 all_goals
  have hbo:=hb.out
  simp only[h1,h2,h3,Bool.and_true,Bool.and_false,Bool.false_and,Bool.true_and]at hbo
  subst hbo
  clear hb
  go_enter Tryz.func121,Tryz.ntmps121
  go_wp2_with fail
  generalize hW:w.alloc (.cells #[F1 x,F1 y,F1 z] 38)=W1 at *
  have W1b:Below w.heap.size w W1:=by subst hW;exact zt ..
  have hkept:=jg false hW;simp only[zr,zq,zo,zv,Nat.reduceAdd]at hkept;clear hW
  have hK:=hkept;simp only[zc,ka,kb,zb,kfa,kga]at hK
  go_wp2_with (go_at_call 149;refine (zel _ _).mono ?_;rintro _ w2⟨rfl,hb1⟩;have hkept:=zn hkept hb1 rfl;replace hK:=hkept;simp only[zc,ka,kb,zb,kfa,kga]at hK;simp only[h1,h2,h3])
  go_ret
  exact⟨rfl,(by repeat' (first|exact zi _ _|refine Below.drew ?_|refine zd ?_ _|refine Below.alloc ?_ (by simp<;>omega) _|refine zj ?_ (by simp<;>omega) _|refine za ?_ ‹_›))⟩

end Go.Proofs.YtbiacfkiakddiaaGreat

namespace Go.Proofs.YtbiacfkiakddiaaGreat
open Go.RowKit Go.Fl
set_option maxRecDepth 100000 in
theorem zt1 (x y z:Nat) (w:World) :
  Calls Tryz.prog 132 #[V3 x y z] w (fun e w'=>e=.returned (.bool (zdw (cn .f32 x,cn .f32 y,cn .f32 z)))∧Below w.heap.size w w'):=by
 have hv:(!([x,y,z]:List Nat).any (fun x=>!qn x))=zdw (cn .f32 x,cn .f32 y,cn .f32 z):=by
  unfold zdw zba
  simp only[List.any_cons,List.any_nil,qn,Bool.or_false,Bool.not_or,Bool.not_not,Bool.and_assoc]
 go_enter Tryz.func132,Tryz.ntmps132
 go_wp2_with (go_at_call 204;refine (yf [x,y,z] (some ⟨_,0,none⟩) _ 0 3 _ (fun _=>rfl) ?_ (by simp)).mono ?_;(focus (intro i hi;have h3:i=0∨i=1∨i=2:=(by simp at hi;omega);rcases h3 with rfl|rfl|rfl<;>simp));rintro _ w2⟨rfl,hb1⟩;rw[hv])
 go_ret
 exact⟨rfl,(by repeat' (first|exact zi _ _|refine zd ?_ _|refine Below.alloc ?_ (by simp<;>omega) _|refine zj ?_ (by simp<;>omega) _|refine za ?_ ‹_›))⟩

theorem ui (a:Nat) (w:World) :
  Calls Tryz.prog 137 #[F1 a] w (fun e w'=>e=.returned (.bool (!(FloatKind.f32.format.order a a==some .eq)))∧Below w.heap.size w w'):=by
 go_enter Tryz.func137,Tryz.ntmps137
 go_wp2_with fail
 go_ret
 exact⟨rfl,(by repeat' (first|exact zi _ _|refine zd ?_ _|refine Below.alloc ?_ (by simp<;>omega) _|refine zj ?_ (by simp<;>omega) _|refine za ?_ ‹_›))⟩

end Go.Proofs.YtbiacfkiakddiaaGreat

namespace Go.Proofs.YtbiacfkiakddiaaGreat
open Go.RowKit Go.Fl
theorem qd {w:World} {g:Nat} {a b c d e f:Value} {T:TypeId} (h:w.heap[g]? = some (.cells #[a,b,c,d,e,f] T (0,0))) :
  (w.cell? ⟨g,0,none⟩=some a∧w.cell? ⟨g,1,none⟩=some b∧w.cell? ⟨g,2,none⟩=some c∧w.cell? ⟨g,3,none⟩=some d∧w.cell? ⟨g,4,none⟩=some e∧w.cell? ⟨g,5,none⟩=some f)∧w.frozen? ⟨g,0,none⟩=false∧w.frozen? ⟨g,1,none⟩=false∧w.frozen? ⟨g,2,none⟩=false∧w.frozen? ⟨g,3,none⟩=false∧w.frozen? ⟨g,4,none⟩=false∧w.frozen? ⟨g,5,none⟩=false:=by
 refine⟨⟨?_,?_,?_,?_,?_,?_⟩,?_,?_,?_,?_,?_,?_⟩<;>simp[World.cell?,World.frozen?,h]

end Go.Proofs.YtbiacfkiakddiaaGreat

namespace Go.Proofs.YtbiacfkiakddiaaGreat
open Go.RowKit Go.Fl
theorem xr {B g:Nat} {a w:World} (h:Below B a w) (hg:B≤g) (x0 x1 x2 x3 x4 x5:Value):Below B a ((((((w.setCell ⟨g,0,none⟩ x0).setCell ⟨g,1,none⟩ x1).setCell ⟨g,2,none⟩ x2).setCell ⟨g,3,none⟩ x3).setCell ⟨g,4,none⟩ x4).setCell ⟨g,5,none⟩ x5) :=
 (((((h.setCell (p:=⟨g,0,none⟩) hg _).setCell (p:=⟨g,1,none⟩) hg _).setCell (p:=⟨g,2,none⟩) hg _).setCell (p:=⟨g,3,none⟩) hg _).setCell (p:=⟨g,4,none⟩) hg _).setCell (p:=⟨g,5,none⟩) hg _

end Go.Proofs.YtbiacfkiakddiaaGreat

namespace Go.Proofs.YtbiacfkiakddiaaGreat
open Go.RowKit Go.Fl
theorem zxf {w:World} {g:Nat} {a b c d e f:Value} {T:TypeId} (h:w.heap[g]? = some (.cells #[a,b,c,d,e,f] T (0,0))) :
  zc [(⟨g,0,none⟩,a),(⟨g,1,none⟩,b),(⟨g,2,none⟩,c),(⟨g,3,none⟩,d),(⟨g,4,none⟩,e),(⟨g,5,none⟩,f)] [⟨g,0,none⟩,⟨g,1,none⟩,⟨g,2,none⟩,⟨g,3,none⟩,⟨g,4,none⟩,⟨g,5,none⟩] w:=by
 obtain⟨⟨p0,p1,p2,p3,p4,p5⟩,q0,q1,q2,q3,q4,q5⟩:=qd h
 simp only[zc,ka,kb,zb,kfa,kga]
 simp[p0,p1,p2,p3,p4,p5,q0,q1,q2,q3,q4,q5]

theorem zx8 {w:World} {g B:Nat} {a b c d e f:Value} {T:TypeId} (hg:w.heap[g]? = some (.cells #[a,b,c,d,e,f] T (0,0))) (hB:B≤g) (x0 x1 x2 x3 x4 x5:Value) :
  ((((((w.setCell ⟨g,0,none⟩ x0).setCell ⟨g,1,none⟩ x1).setCell ⟨g,2,none⟩ x2).setCell ⟨g,3,none⟩ x3).setCell ⟨g,4,none⟩ x4).setCell ⟨g,5,none⟩ x5).heap[g]? = some (.cells #[x0,x1,x2,x3,x4,x5] T (0,0))∧Below B w ((((((w.setCell ⟨g,0,none⟩ x0).setCell ⟨g,1,none⟩ x1).setCell ⟨g,2,none⟩ x2).setCell ⟨g,3,none⟩ x3).setCell ⟨g,4,none⟩ x4).setCell ⟨g,5,none⟩ x5):=by
 refine⟨?_,xr (zi _ _) hB ..⟩
 simp only[World.setCell,Array.getElem?_modify,if_true,hg,Option.map_some]
 rfl
end Go.Proofs.YtbiacfkiakddiaaGreat
