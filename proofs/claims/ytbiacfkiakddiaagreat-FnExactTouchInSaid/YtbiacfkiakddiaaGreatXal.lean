/-
 Lemmas: W3,W9,S5,S6,W10.
-/
import Derived.Test.YtbiacfkiakddiaaGreatXah
set_option linter.unusedVariables false
set_option linter.unusedSimpArgs false
set_option maxHeartbeats 8000000
namespace Go.Proofs.YtbiacfkiakddiaaGreat
open Go.RowKit Go.Fl
set_option maxRecDepth 100000 in
theorem zr7 (b o  x y:Nat) (w:World) (hk:w.cell? ⟨b,o,none⟩=some (.int .i64 5)) :
  Calls Tryz.prog 234 #[.pointer (some ⟨b,o,none⟩),F1 x,F1 y] w (Ret .f32 (yo (cn .f32 x) (cn .f32 y)) w):=by
 have hb:b<w.heap.size:=zg (a:=⟨b,o,none⟩) (by rw[hk];rfl)
 go_enter Tryz.func234,Tryz.ntmps234
 go_wp2_with (first|(go_at_call 90;refine (yb _ _).mono ?_;rintro _ w2⟨r1,rfl,hr1,hb1⟩;have HL:=yc hb1;have HF:=z9 hb1)|(go_at_call 221;refine (yw _ _ _).mono ?_;rintro _ w2⟨r1,rfl,hr1,hb1⟩;have HL:=yc hb1;have HF:=z9 hb1)|(go_at_call 222;refine (ym _ _ _).mono ?_;rintro _ w2⟨r1,rfl,hr1,hb1⟩;have HL:=yc hb1;have HF:=z9 hb1)|(go_at_call 224;refine (jj _ _ _).mono ?_;rintro _ w2⟨r1,rfl,hr1,hb1⟩;have HL:=yc hb1;have HF:=z9 hb1)|(refine z6 rfl _ _ _ _ _ rfl _ _ _ rfl rfl rfl ?_;intro r n hr))
 go_ret
 exact⟨_,rfl,by simp only[ye,xo, *],(by repeat' (first|exact zi _ _|refine zd ?_ _|refine Below.alloc ?_ (by simp<;>omega) _|refine zj ?_ (by simp<;>omega) _|refine za ?_ ‹_›))⟩

set_option maxRecDepth 100000 in
theorem zv9 (b o  x y:Nat) (w:World) (hk:w.cell? ⟨b,o,none⟩=some (.int .i64 6)) :
  Calls Tryz.prog 234 #[.pointer (some ⟨b,o,none⟩),F1 x,F1 y] w (Ret .f32 (z7 (cn .f32 x) (cn .f32 y)) w):=by
 have hb:b<w.heap.size:=zg (a:=⟨b,o,none⟩) (by rw[hk];rfl)
 go_enter Tryz.func234,Tryz.ntmps234
 go_wp2_with (first|(go_at_call 90;refine (yb _ _).mono ?_;rintro _ w2⟨r1,rfl,hr1,hb1⟩;have HL:=yc hb1;have HF:=z9 hb1)|(go_at_call 221;refine (yw _ _ _).mono ?_;rintro _ w2⟨r1,rfl,hr1,hb1⟩;have HL:=yc hb1;have HF:=z9 hb1)|(go_at_call 222;refine (ym _ _ _).mono ?_;rintro _ w2⟨r1,rfl,hr1,hb1⟩;have HL:=yc hb1;have HF:=z9 hb1)|(go_at_call 224;refine (jj _ _ _).mono ?_;rintro _ w2⟨r1,rfl,hr1,hb1⟩;have HL:=yc hb1;have HF:=z9 hb1)|(refine z6 rfl _ _ _ _ _ rfl _ _ _ rfl rfl rfl ?_;intro r n hr))
 go_ret
 exact⟨_,rfl,by simp only[ye,xo, *],(by repeat' (first|exact zi _ _|refine zd ?_ _|refine Below.alloc ?_ (by simp<;>omega) _|refine zj ?_ (by simp<;>omega) _|refine za ?_ ‹_›))⟩

set_option maxRecDepth 100000 in
theorem zu2 (b o  x y:Nat) (w:World) (hk:w.cell? ⟨b,o,none⟩=some (.int .i64 7)) :
  Calls Tryz.prog 234 #[.pointer (some ⟨b,o,none⟩),F1 x,F1 y] w (Ret .f32 (z7 (cn .f32 x) (un .f32 (cn .f32 y))) w):=by
 have hb:b<w.heap.size:=zg (a:=⟨b,o,none⟩) (by rw[hk];rfl)
 go_enter Tryz.func234,Tryz.ntmps234
 go_wp2_with (first|(go_at_call 90;refine (yb _ _).mono ?_;rintro _ w2⟨r1,rfl,hr1,hb1⟩;have HL:=yc hb1;have HF:=z9 hb1)|(go_at_call 221;refine (yw _ _ _).mono ?_;rintro _ w2⟨r1,rfl,hr1,hb1⟩;have HL:=yc hb1;have HF:=z9 hb1)|(go_at_call 222;refine (ym _ _ _).mono ?_;rintro _ w2⟨r1,rfl,hr1,hb1⟩;have HL:=yc hb1;have HF:=z9 hb1)|(go_at_call 224;refine (jj _ _ _).mono ?_;rintro _ w2⟨r1,rfl,hr1,hb1⟩;have HL:=yc hb1;have HF:=z9 hb1)|(refine z6 rfl _ _ _ _ _ rfl _ _ _ rfl rfl rfl ?_;intro r n hr))
 go_ret
 exact⟨_,rfl,by simp only[ye,xo, *],(by repeat' (first|exact zi _ _|refine zd ?_ _|refine Below.alloc ?_ (by simp<;>omega) _|refine zj ?_ (by simp<;>omega) _|refine za ?_ ‹_›))⟩

set_option maxRecDepth 100000 in
theorem zs1 (b o bv ov cap r0 x y:Nat) (w:World) (hk:w.cell? ⟨b,o,none⟩=some (.int .i64 10))
  (hs:w.cell? ⟨b,o+3,none⟩=some (.slice (some ⟨bv,ov,none⟩) 1 cap)) (h0:w.cell? ⟨bv,ov,none⟩=some (F1 r0)) :
  Calls Tryz.prog 234 #[.pointer (some ⟨b,o,none⟩),F1 x,F1 y] w (Ret .f32 (B .mul (cn .f32 x) (cn .f32 r0)) w):=by
 have hb:b<w.heap.size:=zg (a:=⟨b,o,none⟩) (by rw[hk];rfl)
 have hbv:bv<w.heap.size:=zg (a:=⟨bv,ov,none⟩) (by rw[h0];rfl)
 go_enter Tryz.func234,Tryz.ntmps234
 go_wp2_with (first|(go_at_call 90;refine (yb _ _).mono ?_;rintro _ w2⟨r1,rfl,hr1,hb1⟩;have HL:=yc hb1;have HF:=z9 hb1)|(go_at_call 221;refine (yw _ _ _).mono ?_;rintro _ w2⟨r1,rfl,hr1,hb1⟩;have HL:=yc hb1;have HF:=z9 hb1)|(go_at_call 222;refine (ym _ _ _).mono ?_;rintro _ w2⟨r1,rfl,hr1,hb1⟩;have HL:=yc hb1;have HF:=z9 hb1)|(go_at_call 224;refine (jj _ _ _).mono ?_;rintro _ w2⟨r1,rfl,hr1,hb1⟩;have HL:=yc hb1;have HF:=z9 hb1)|(refine z6 rfl _ _ _ _ _ rfl _ _ _ rfl rfl rfl ?_;intro r n hr))
 go_ret
 exact⟨_,rfl,by simp only[ye,xo, *],(by repeat' (first|exact zi _ _|refine zd ?_ _|refine Below.alloc ?_ (by simp<;>omega) _|refine zj ?_ (by simp<;>omega) _|refine za ?_ ‹_›))⟩

set_option maxRecDepth 100000 in
theorem zs6 (b o bv ov cap r0 x y:Nat) (w:World) (hk:w.cell? ⟨b,o,none⟩=some (.int .i64 15))
  (hs:w.cell? ⟨b,o+3,none⟩=some (.slice (some ⟨bv,ov,none⟩) 1 cap)) (h0:w.cell? ⟨bv,ov,none⟩=some (F1 r0)) :
  Calls Tryz.prog 234 #[.pointer (some ⟨b,o,none⟩),F1 x,F1 y] w (Ret .f32 (B .sub (cn .f32 x) (cn .f32 r0)) w):=by
 have hb:b<w.heap.size:=zg (a:=⟨b,o,none⟩) (by rw[hk];rfl)
 have hbv:bv<w.heap.size:=zg (a:=⟨bv,ov,none⟩) (by rw[h0];rfl)
 go_enter Tryz.func234,Tryz.ntmps234
 go_wp2_with (first|(go_at_call 90;refine (yb _ _).mono ?_;rintro _ w2⟨r1,rfl,hr1,hb1⟩;have HL:=yc hb1;have HF:=z9 hb1)|(go_at_call 221;refine (yw _ _ _).mono ?_;rintro _ w2⟨r1,rfl,hr1,hb1⟩;have HL:=yc hb1;have HF:=z9 hb1)|(go_at_call 222;refine (ym _ _ _).mono ?_;rintro _ w2⟨r1,rfl,hr1,hb1⟩;have HL:=yc hb1;have HF:=z9 hb1)|(go_at_call 224;refine (jj _ _ _).mono ?_;rintro _ w2⟨r1,rfl,hr1,hb1⟩;have HL:=yc hb1;have HF:=z9 hb1)|(refine z6 rfl _ _ _ _ _ rfl _ _ _ rfl rfl rfl ?_;intro r n hr))
 go_ret
 exact⟨_,rfl,by simp only[ye,xo, *],(by repeat' (first|exact zi _ _|refine zd ?_ _|refine Below.alloc ?_ (by simp<;>omega) _|refine zj ?_ (by simp<;>omega) _|refine za ?_ ‹_›))⟩

set_option maxRecDepth 100000 in
theorem zsb (b o bv ov cap r0 x y:Nat) (w:World) (hk:w.cell? ⟨b,o,none⟩=some (.int .i64 16))
  (hs:w.cell? ⟨b,o+3,none⟩=some (.slice (some ⟨bv,ov,none⟩) 1 cap)) (h0:w.cell? ⟨bv,ov,none⟩=some (F1 r0)) :
  Calls Tryz.prog 234 #[.pointer (some ⟨b,o,none⟩),F1 x,F1 y] w (Ret .f32 (B .sub (vp (cn .f32 x)) (cn .f32 r0)) w):=by
 have hb:b<w.heap.size:=zg (a:=⟨b,o,none⟩) (by rw[hk];rfl)
 have hbv:bv<w.heap.size:=zg (a:=⟨bv,ov,none⟩) (by rw[h0];rfl)
 go_enter Tryz.func234,Tryz.ntmps234
 go_wp2_with fail
 refine Qr.wp_below_all (by kernel_rfl) (by kernel_rfl) PhiF ?_
 repeat (refine Qr.walk_plain rfl fun K hK=>?_;(first|(refine zk _ _ _ _ _ rfl _ _ _ rfl rfl rfl (fun r hr=>?_))|(apply Qr.one_det;(focus (intro w' hw';have HL:=yc hw';go_simp;first|done|rfl)))|(apply Qr.one_call;(focus (intro w' hw';go_simp;first|done|exact⟨rfl,rfl⟩));(focus (intro w' hw';(first|(go_at_call 90;refine (yb _ _).mono ?_)|(go_at_call 221;refine (yw _ _ _).mono ?_)|(go_at_call 222;refine (ym _ _ _).mono ?_)|(go_at_call 224;refine (jj _ _ _).mono ?_));rintro _ w2⟨r1,rfl,hr1,hb1⟩;exact⟨_,rfl,by constructor<;>assumption,za hw' ‹_›,by assumption⟩));intro v hv;cases hv));go_simp;refine hK _ ?_;clear hK K)
 refine Qr.walk_nil fun w3 hw3=>?_
 go_wp2_with fail
 go_ret
 exact⟨_,rfl,by simp only[*],(by repeat' (first|exact zi _ _|refine zd ?_ _|refine Below.alloc ?_ (by simp<;>omega) _|refine zj ?_ (by simp<;>omega) _|refine za ?_ ‹_›))⟩

set_option maxRecDepth 100000 in
theorem ztm (b o  x y:Nat) (w:World) (hk:w.cell? ⟨b,o,none⟩=some (.int .i64 9)) :
  Calls Tryz.prog 234 #[.pointer (some ⟨b,o,none⟩),F1 x,F1 y] w (Ret .f32 (cn .f32 x) w):=by
 have hb:b<w.heap.size:=zg (a:=⟨b,o,none⟩) (by rw[hk];rfl)
 go_enter Tryz.func234,Tryz.ntmps234
 go_wp2_with fail
 go_ret
 exact⟨_,rfl,rfl,(by repeat' (first|exact zi _ _|refine zd ?_ _|refine Below.alloc ?_ (by simp<;>omega) _|refine zj ?_ (by simp<;>omega) _|refine za ?_ ‹_›))⟩

set_option maxRecDepth 100000 in
theorem zm1 (b o  x y:Nat) (w:World) (hk:w.cell? ⟨b,o,none⟩=some (.int .i64 11)) :
  Calls Tryz.prog 234 #[.pointer (some ⟨b,o,none⟩),F1 x,F1 y] w (Ret .f32 (cn .f32 x) w):=by
 have hb:b<w.heap.size:=zg (a:=⟨b,o,none⟩) (by rw[hk];rfl)
 go_enter Tryz.func234,Tryz.ntmps234
 go_wp2_with fail
 go_ret
 exact⟨_,rfl,rfl,(by repeat' (first|exact zi _ _|refine zd ?_ _|refine Below.alloc ?_ (by simp<;>omega) _|refine zj ?_ (by simp<;>omega) _|refine za ?_ ‹_›))⟩

set_option maxRecDepth 100000 in
theorem ztq (b o  x y:Nat) (w:World) (hk:w.cell? ⟨b,o,none⟩=some (.int .i64 12)) :
  Calls Tryz.prog 234 #[.pointer (some ⟨b,o,none⟩),F1 x,F1 y] w (Ret .f32 (cn .f32 x) w):=by
 have hb:b<w.heap.size:=zg (a:=⟨b,o,none⟩) (by rw[hk];rfl)
 go_enter Tryz.func234,Tryz.ntmps234
 go_wp2_with fail
 go_ret
 exact⟨_,rfl,rfl,(by repeat' (first|exact zi _ _|refine zd ?_ _|refine Below.alloc ?_ (by simp<;>omega) _|refine zj ?_ (by simp<;>omega) _|refine za ?_ ‹_›))⟩

set_option maxRecDepth 100000 in
theorem zok (b o  x y:Nat) (w:World) (hk:w.cell? ⟨b,o,none⟩=some (.int .i64 13)) :
  Calls Tryz.prog 234 #[.pointer (some ⟨b,o,none⟩),F1 x,F1 y] w (Ret .f32 (cn .f32 x) w):=by
 have hb:b<w.heap.size:=zg (a:=⟨b,o,none⟩) (by rw[hk];rfl)
 go_enter Tryz.func234,Tryz.ntmps234
 go_wp2_with fail
 go_ret
 exact⟨_,rfl,rfl,(by repeat' (first|exact zi _ _|refine zd ?_ _|refine Below.alloc ?_ (by simp<;>omega) _|refine zj ?_ (by simp<;>omega) _|refine za ?_ ‹_›))⟩

set_option maxRecDepth 100000 in
theorem ztl (b o  x y:Nat) (w:World) (hk:w.cell? ⟨b,o,none⟩=some (.int .i64 14)) :
  Calls Tryz.prog 234 #[.pointer (some ⟨b,o,none⟩),F1 x,F1 y] w (Ret .f32 (cn .f32 x) w):=by
 have hb:b<w.heap.size:=zg (a:=⟨b,o,none⟩) (by rw[hk];rfl)
 go_enter Tryz.func234,Tryz.ntmps234
 go_wp2_with fail
 go_ret
 exact⟨_,rfl,rfl,(by repeat' (first|exact zi _ _|refine zd ?_ _|refine Below.alloc ?_ (by simp<;>omega) _|refine zj ?_ (by simp<;>omega) _|refine za ?_ ‹_›))⟩

set_option maxRecDepth 100000 in
theorem zos (b o bv ov cap r0 x y:Nat) (w:World) (hk:w.cell? ⟨b,o,none⟩=some (.int .i64 8))
  (hs:w.cell? ⟨b,o+3,none⟩=some (.slice (some ⟨bv,ov,none⟩) 1 cap)) (h0:w.cell? ⟨bv,ov,none⟩=some (F1 r0)) :
  Calls Tryz.prog 234 #[.pointer (some ⟨b,o,none⟩),F1 x,F1 y] w (Ret .f32 (zcz (cn .f32 x) (cn .f32 y) (cn .f32 r0)) w):=by
 have hb:b<w.heap.size:=zg (a:=⟨b,o,none⟩) (by rw[hk];rfl)
 have hbv:bv<w.heap.size:=zg (a:=⟨bv,ov,none⟩) (by rw[h0];rfl)
 go_enter Tryz.func234,Tryz.ntmps234
 go_wp2_with fail
 refine Qr.wp_below_all (by kernel_rfl) (by kernel_rfl) PhiF ?_
 repeat (refine Qr.walk_plain rfl fun K hK=>?_;(first|(refine zk _ _ _ _ _ rfl _ _ _ rfl rfl rfl (fun r hr=>?_))|(apply Qr.one_det;(focus (intro w' hw';have HL:=yc hw';go_simp;first|done|rfl)))|(apply Qr.one_call;(focus (intro w' hw';go_simp;first|done|exact⟨rfl,rfl⟩));(focus (intro w' hw';(first|(go_at_call 90;refine (yb _ _).mono ?_)|(go_at_call 221;refine (yw _ _ _).mono ?_)|(go_at_call 222;refine (ym _ _ _).mono ?_)|(go_at_call 224;refine (jj _ _ _).mono ?_));rintro _ w2⟨r1,rfl,hr1,hb1⟩;exact⟨_,rfl,by constructor<;>assumption,za hw' ‹_›,by assumption⟩));intro v hv;cases hv));go_simp;refine hK _ ?_;clear hK K)
 refine Qr.walk_nil fun w3 hw3=>?_
 have HL3:=yc hw3
 go_wp2_with (first|(go_at_call 90;refine (yb _ _).mono ?_;rintro _ w2⟨r1,rfl,hr1,hb1⟩;have HL:=yc hb1;have HF:=z9 hb1)|(go_at_call 221;refine (yw _ _ _).mono ?_;rintro _ w2⟨r1,rfl,hr1,hb1⟩;have HL:=yc hb1;have HF:=z9 hb1)|(go_at_call 222;refine (ym _ _ _).mono ?_;rintro _ w2⟨r1,rfl,hr1,hb1⟩;have HL:=yc hb1;have HF:=z9 hb1)|(go_at_call 224;refine (jj _ _ _).mono ?_;rintro _ w2⟨r1,rfl,hr1,hb1⟩;have HL:=yc hb1;have HF:=z9 hb1)|(refine z6 rfl _ _ _ _ _ rfl _ _ _ rfl rfl rfl ?_;intro r n hr))
 ·have hg:=za9 ‹(FloatKind.f32.format.order _ 0==some .gt)=true›
  refine Qr.wp_below_all (by kernel_rfl) (by kernel_rfl) PhiF ?_
  repeat (refine Qr.walk_plain rfl fun K hK=>?_;(first|(refine zk _ _ _ _ _ rfl _ _ _ rfl rfl rfl (fun r hr=>?_))|(apply Qr.one_det;(focus (intro w' hw';have HL:=yc hw';go_simp;first|done|rfl)))|(apply Qr.one_call;(focus (intro w' hw';go_simp;first|done|exact⟨rfl,rfl⟩));(focus (intro w' hw';(first|(go_at_call 90;refine (yb _ _).mono ?_)|(go_at_call 221;refine (yw _ _ _).mono ?_)|(go_at_call 222;refine (ym _ _ _).mono ?_)|(go_at_call 224;refine (jj _ _ _).mono ?_));rintro _ w2⟨r1,rfl,hr1,hb1⟩;exact⟨_,rfl,by constructor<;>assumption,za hw' ‹_›,by assumption⟩));intro v hv;cases hv));go_simp;refine hK _ ?_;clear hK K)
  refine Qr.walk_nil fun w4 hw4=>?_
  go_wp2_with fail
  go_ret
  simp only[*]at hg
  exact⟨_,rfl,by simp only[zcz,B,hg,if_true, *],(by repeat' (first|exact zi _ _|refine zd ?_ _|refine Below.alloc ?_ (by simp<;>omega) _|refine zj ?_ (by simp<;>omega) _|refine za ?_ ‹_›))⟩
 ·have hg:=za9 ‹(FloatKind.f32.format.order _ 0==some .gt)=false›
  go_ret
  simp only[*]at hg
  exact⟨_,rfl,by simp only[zcz,B,hg];simp only[*];rfl,(by repeat' (first|exact zi _ _|refine zd ?_ _|refine Below.alloc ?_ (by simp<;>omega) _|refine zj ?_ (by simp<;>omega) _|refine za ?_ ‹_›))⟩
def zee:Nat→Nat × Nat × Bool × Nat
 | 0=>(1,0,false,1)|1=>(3,0,false,1)|2=>(2,0,false,1)|3=>(2,0,false,1)|4=>(4,0,false,0)
 | 5=>(0,2,false,0)|6=>(0,2,false,0)|7=>(0,2,false,0)|8=>(1,2,false,2)
 | 9=>(3,1,false,0)|10=>(1,1,false,2)|11=>(3,1,false,2)|12=>(1,1,true,0)|13=>(0,1,true,0)|14=>(1,1,true,2)|15=>(1,1,false,0)|16=>(1,1,false,1)
 | _=>(0,0,false,0)
def qe (k:Int):Bool:=decide (0≤k) && decide (k≤16)
def zz (k:Int):Nat × Nat × Bool × Nat:=if qe k then zee k.toNat else (0,0,false,0)
abbrev I64 (n:Nat):Value:=.int .i64 (n:Int)
def ze3 (k:Int):Value:=.agg #[I64 (zz k).1,I64 (zz k).2.1,.bool (zz k).2.2.1,I64 (zz k).2.2.2]

set_option maxRecDepth 100000 in
theorem zg8 (k:Int) (w:World):Calls Tryz.prog 155 #[.int .i64 k] w (fun e w'=>e=.returned (.tuple #[ze3 k,.bool (qe k)])∧Below w.heap.size w w'):=by
 by_cases hk:0≤k∧k≤16
 ·have:k=0∨k=1∨k=2∨k=3∨k=4∨k=5∨k=6∨k=7∨k=8∨k=9∨k=10∨k=11∨k=12∨k=13∨k=14∨k=15∨k=16:=by omega
  rcases this with h|h|h|h|h|h|h|h|h|h|h|h|h|h|h|h|h
  all_goals
   subst h
   clear hk
   go_enter Tryz.func155,Tryz.ntmps155
   go_wp2_with fail
   refine⟨rfl,.tuple #[ze3 _,.bool true],?_,rfl,(by repeat' (first|exact zi _ _|refine zd ?_ _|refine Below.alloc ?_ (by simp<;>omega) _|refine zj ?_ (by simp<;>omega) _|refine za ?_ ‹_›))
⟩
   ·simp[results,Tryz.results155,go_sem,List.mapM_cons,Array.mapM_eq_mapM_toList,ze3,zz,qe,zee,I64];try rfl
 ·have hk':qe k=false:=by
   simp only[qe,Bool.and_eq_false_iff,decide_eq_false_iff_not];omega
  have hr:ze3 k=.agg #[I64 0,I64 0,.bool false,I64 0]:=by simp only[ze3,zz,hk'];rfl
  rw[hr,hk']
  have hn:∀ c:Nat,c≤16→k ≠ (c:Int):=fun c hc h=>hk (by omega)
  have h0:=hn 0 (by omega);have h1:=hn 1 (by omega);have h2:=hn 2 (by omega);have h3:=hn 3 (by omega);have h4:=hn 4 (by omega);have h5:=hn 5 (by omega);have h6:=hn 6 (by omega);have h7:=hn 7 (by omega);have h8:=hn 8 (by omega);have h9:=hn 9 (by omega);have h10:=hn 10 (by omega);have h11:=hn 11 (by omega);have h12:=hn 12 (by omega);have h13:=hn 13 (by omega);have h14:=hn 14 (by omega);have h15:=hn 15 (by omega);have h16:=hn 16 (by omega)
  clear hn hk hk' hr
  simp only[Int.natCast_zero,Int.natCast_one,Int.cast_ofNat_Int]at h0 h1 h2 h3 h4 h5 h6 h7 h8 h9 h10 h11 h12 h13 h14 h15 h16
  go_enter Tryz.func155,Tryz.ntmps155
  go_wp2_with fail
  exact bodyPost_ret (v:=.tuple #[.agg #[I64 0,I64 0,.bool false,I64 0],.bool false]) (by simp[results,Tryz.results155,go_sem];first|done|rfl) rfl ⟨rfl,(by repeat' (first|exact zi _ _|refine zd ?_ _|refine Below.alloc ?_ (by simp<;>omega) _|refine zj ?_ (by simp<;>omega) _|refine za ?_ ‹_›))⟩

theorem kz (a b c:Int) (w:World) :
  Calls Tryz.prog 71 #[.int .i64 a,.int .i64 b,.int .i64 c] w (fun e w'=>e=.returned (.bool (decide (b≤a) && decide (a≤c)))∧w=w'):=by
 by_cases h1:b≤a
 ·by_cases h2:a≤c
  all_goals
   go_enter Tryz.func71,Tryz.ntmps71
   go_wp2_with fail
   go_ret
   exact⟨by simp[h1,h2],rfl⟩
 ·go_enter Tryz.func71,Tryz.ntmps71
  go_wp2_with fail
  go_ret
  exact⟨by rw[decide_eq_false (by omega:¬ b≤a)];rfl,rfl⟩

theorem kp (k:Int) (w:World):Calls Tryz.prog 119 #[.int .i64 k] w (fun e w'=>e=.returned (.bool (decide (0≤k) && decide (k≤4)))∧w=w'):=by
 go_enter Tryz.func119,Tryz.ntmps119
 go_wp2_with (go_at_call 71;refine (kz _ _ _ _).mono ?_;rintro _ w2⟨rfl,rfl⟩)
 go_ret
 exact⟨rfl,rfl⟩

theorem zah (k:Int) (w:World):Calls Tryz.prog 120 #[.int .i64 k] w (fun e w'=>e=.returned (.bool (decide (5≤k) && decide (k≤8)))∧w=w'):=by
 go_enter Tryz.func120,Tryz.ntmps120
 go_wp2_with (go_at_call 71;refine (kz _ _ _ _).mono ?_;rintro _ w2⟨rfl,rfl⟩)
 go_ret
 exact⟨rfl,rfl⟩

theorem zn1 (k:Int) (w:World):Calls Tryz.prog 186 #[.int .i64 k] w (fun e w'=>e=.returned (.bool (decide (12≤k) && decide (k≤14)))∧w=w'):=by
 go_enter Tryz.func186,Tryz.ntmps186
 go_wp2_with (go_at_call 71;refine (kz _ _ _ _).mono ?_;rintro _ w2⟨rfl,rfl⟩)
 go_ret
 exact⟨rfl,rfl⟩

set_option maxRecDepth 100000 in
theorem ze5 (k:Int) (w:World):Calls Tryz.prog 252 #[.int .i64 k] w (fun e w'=>e=.returned (I64 (zz k).1)∧w=w'):=by
 by_cases hk:0≤k∧k≤16
 ·have:k=0∨k=1∨k=2∨k=3∨k=4∨k=5∨k=6∨k=7∨k=8∨k=9∨k=10∨k=11∨k=12∨k=13∨k=14∨k=15∨k=16:=by omega
  rcases this with h|h|h|h|h|h|h|h|h|h|h|h|h|h|h|h|h
  all_goals
   subst h
   clear hk
   go_enter Tryz.func252,Tryz.ntmps252
   go_wp2_with fail
   go_ret
   exact⟨rfl,rfl⟩
 ·have hk':qe k=false:=by
   simp only[qe,Bool.and_eq_false_iff,decide_eq_false_iff_not];omega
  have hr:I64 (zz k).1=.int .i64 0:=by simp only[zz,hk'];rfl
  rw[hr]
  have hn:∀ c:Nat,c≤16→k ≠ (c:Int):=fun c hc h=>hk (by omega)
  have h0:=hn 0 (by omega);have h1:=hn 1 (by omega);have h2:=hn 2 (by omega);have h3:=hn 3 (by omega);have h4:=hn 4 (by omega);have h5:=hn 5 (by omega);have h6:=hn 6 (by omega);have h7:=hn 7 (by omega);have h8:=hn 8 (by omega);have h9:=hn 9 (by omega);have h10:=hn 10 (by omega);have h11:=hn 11 (by omega);have h12:=hn 12 (by omega);have h13:=hn 13 (by omega);have h14:=hn 14 (by omega);have h15:=hn 15 (by omega);have h16:=hn 16 (by omega)
  clear hn hk hk' hr
  simp only[Int.natCast_zero,Int.natCast_one,Int.cast_ofNat_Int]at h0 h1 h2 h3 h4 h5 h6 h7 h8 h9 h10 h11 h12 h13 h14 h15 h16
  go_enter Tryz.func252,Tryz.ntmps252
  go_wp2_with fail
  go_ret
  exact⟨rfl,rfl⟩
def ze7 (s:Nat) (x:Nat):Bool:=!qn x || qb s x

theorem zds (a:Nat) (w:World) :
  Calls Tryz.prog 149 #[.float .f32 a] w (fun e w'=>e=.returned (.bool (qn a))∧Below w.heap.size w w'):=zel a w

set_option maxRecDepth 100000 in
theorem zhg (k:Int) (hk:0≤k∧k≤16) (xs:List Nat) (bp:Option Addr) (bv ov cap:Nat) (w:World) (h1:xs ≠ []→bp=some ⟨bv,ov,none⟩) (h2:∀ i (h:i<xs.length),w.cell? ⟨bv,ov+i,none⟩=some (.float .f32 xs[i])) :
  Calls Tryz.prog 185 #[.int .i64 k,.slice bp xs.length cap] w (fun e w'=>e=.returned (.bool (decide (xs.length=(zz k).1) && !xs.any (ze7 (zz k).2.2.2)))∧Below w.heap.size w w'):=by
 obtain⟨sg,hsg⟩:∃ sg,sg=(zz k).2.2.2:=⟨_,rfl⟩
 rw[← hsg]
 by_cases hlen:xs.length=(zz k).1
 ·have hlI:(xs.length:Int)=((zz k).1:Int):=by omega
  have hl4:xs.length<1000:=by
   rw[hlen];unfold zz;split
   ·unfold zee;split<;>simp
   ·simp
  have:k=0∨k=1∨k=2∨k=3∨k=4∨k=5∨k=6∨k=7∨k=8∨k=9∨k=10∨k=11∨k=12∨k=13∨k=14∨k=15∨k=16:=by omega
  rcases this with h|h|h|h|h|h|h|h|h|h|h|h|h|h|h|h|h
  all_goals
   subst h
   have hcnt:=congrArg I64 hlen.symm
   have hlenH:Hid (xs.length=(zz _).1):=hlen
   clear hlen hk hlI
   have hsgH:Hid (sg=(zz _).2.2.2):=hsg
   clear hsg
   go_enter Tryz.func185,Tryz.ntmps185
   go_wp2_with (go_at_call 252;refine (ze5 _ _).mono ?_;rintro _ w2⟨rfl,rfl⟩;rw[hcnt])
   clear hcnt
   go_loopw [5] (fun i wr=>∃ m:Nat,m≤xs.length∧i=.int .i64 (m:Int)∧(xs.take m).any (ze7 sg)=false∧Below w.heap.size w wr) (fun i _=>xs.length-(intOf i).toNat)
   case atStart=>exact⟨0,by omega,rfl,rfl,(by repeat' (first|exact zi _ _|refine zd ?_ _|refine Below.alloc ?_ (by simp<;>omega) _|refine zj ?_ (by simp<;>omega) _|refine za ?_ ‹_›))⟩
   case round =>
    obtain⟨m,hm,rfl,hany,hwr⟩:=hrel
    by_cases hlt:m<xs.length
    ·have hne:xs ≠ []:=by intro h;rw[h]at hlt;simp at hlt
     have hc:=h2 m hlt
     have hlt':(m:Int)<(xs.length:Int):=by omega
     have h0:(0:Int)≤(m:Int):=by omega
     have hc':wr.cell? ⟨bv,ov+m,none⟩=some (.float .f32 xs[m]):=by rw[yc hwr _ (by rw[hc];rfl)];exact hc
     have hbp:=h1 hne
     subst hbp
     have hmem:xs[m]∈xs:=List.getElem_mem _
     have hyes:Hid (ze7 sg xs[m]=true→xs.any (ze7 sg)=true):=fun h=>List.any_eq_true.2 ⟨xs[m],hmem,h⟩
     have hno:Hid (ze7 sg xs[m]=false→(xs.take (m+1)).any (ze7 sg)=false):=fun h=>j8 _ xs m hlt hany h
     clear h1 h2 hc hany hmem hne
     generalize xs[m]=v at *
     have hs:=hsgH.out
     cases hfp:qn v
     ·clear hs
      go_wp2_with (go_at_call 149;refine (zds _ _).mono ?_;rintro _ w2⟨rfl,hb2⟩;rw[hfp])
      go_ret
      exact⟨by rw[hyes.out (by simp[ze7,hfp])];simp,za hwr ‹_›⟩
     ·cases hlt0:(FloatKind.f32.format.order v 0==some .lt)<;>cases heq0:(FloatKind.f32.format.order v 0==some .eq)
      all_goals
       have hbad:Hid (ze7 sg v=qb sg v):=by unfold Hid;simp only[ze7,hfp,Bool.not_true,Bool.false_or]
       clear hs
       have hw3:∀ w2,Below wr.heap.size wr w2→w2.cell? ⟨bv,ov+m,none⟩=some (.float .f32 v):=fun w2 h=>by rw[yc h _ (by rw[hc'];rfl)];exact hc'
       go_wp2_with (go_at_call 149;refine (zds _ _).mono ?_;rintro _ w2⟨rfl,hb2⟩;rw[hfp];have hc2:=hw3 _ hb2)
       first
       | (go_ret;exact⟨by rw[hyes.out (by rw[hbad.out,hsgH.out];simp[qb,ltk,lek,ua,hlt0,heq0,zz,zee,qe])];simp,za hwr ‹_›⟩)
       | exact⟨⟨m+1,by omega,by simp,hno.out (by rw[hbad.out,hsgH.out];simp[qb,ltk,lek,ua,hlt0,heq0,zz,zee,qe]),za hwr ‹_›⟩,by simp[intOf];omega⟩
    ·obtain rfl:m=xs.length:=by omega
     rw[List.take_length]at hany
     go_wp2_with fail
     go_ret
     exact⟨by rw[hany,decide_eq_true hlenH.out];rfl,hwr⟩
 ·have hlI:(xs.length:Int) ≠ ((zz k).1:Int):=by omega
  have hv:(decide (xs.length=(zz k).1) && !xs.any (ze7 sg))=false:=by simp[hlen]
  rw[hv]
  clear hv h1 h2
  go_enter Tryz.func185,Tryz.ntmps185
  go_wp2_with (go_at_call 252;refine (ze5 _ _).mono ?_;rintro _ w2⟨rfl,rfl⟩)
  go_ret
  exact⟨rfl,(by repeat' (first|exact zi _ _|refine zd ?_ _|refine Below.alloc ?_ (by simp<;>omega) _|refine zj ?_ (by simp<;>omega) _|refine za ?_ ‹_›))⟩
set_option maxRecDepth 100000 in
theorem xz (b o:Nat) (k x y:Int) (w:World) (h0:w.cell? ⟨b,o,none⟩=some (.int .i64 k)) (h1:w.cell? ⟨b,o+1,none⟩=some (.int .i64 x)) (h2:w.cell? ⟨b,o+2,none⟩=some (.int .i64 y)) :
  Calls Tryz.prog 93 #[.pointer (some ⟨b,o,none⟩)] w (fun e w'=>∃ g,e=.returned (.slice (some ⟨g,0,none⟩) (zz k).2.1 2)∧w'.cell? ⟨g,0,none⟩=some (.int .i64 x)∧w'.cell? ⟨g,1,none⟩=some (.int .i64 y)∧w.heap.size≤g∧Below w.heap.size w w'):=by
 have hc:(zz k).2.1≤2:=by
  unfold zz;split
  ·unfold zee;split<;>simp
  ·simp
 have hb:b<w.heap.size:=zg (a:=⟨b,o,none⟩) (by rw[h0];rfl)
 go_enter Tryz.func93,Tryz.ntmps93
 go_wp2_with (go_at_call 155;refine (zg8 _ _).mono ?_;rintro _ w2⟨rfl,hb1⟩;have HL:=yc hb1;simp only[ze3])
 have W3b:Below w.heap.size w (w2.alloc (.cells #[I64 (zz k).1,I64 (zz k).2.1,.bool (zz k).2.2.1,I64 (zz k).2.2.2] 217)):=hb1.alloc hb1.size _
 have hk1:(w2.alloc (.cells #[I64 (zz k).1,I64 (zz k).2.1,.bool (zz k).2.2.1,I64 (zz k).2.2.2] 217)).cell? ⟨b,o+1,none⟩=some (.int .i64 x):=by rw[yc W3b _ (by rw[h1];rfl)];exact h1
 have hk2:(w2.alloc (.cells #[I64 (zz k).1,I64 (zz k).2.1,.bool (zz k).2.2.1,I64 (zz k).2.2.2] 217)).cell? ⟨b,o+2,none⟩=some (.int .i64 y):=by rw[yc W3b _ (by rw[h2];rfl)];exact h2
 have hk3:(w2.alloc (.cells #[I64 (zz k).1,I64 (zz k).2.1,.bool (zz k).2.2.1,I64 (zz k).2.2.2] 217)).cell? ⟨w2.heap.size,1,none⟩=some (I64 (zz k).2.1):=by simp
 clear hb1 HL
 generalize w2.alloc (.cells #[I64 (zz k).1,I64 (zz k).2.1,.bool (zz k).2.2.1,I64 (zz k).2.2.2] 217)=w3 at *
 clear h0 h1 h2
 generalize hnc:(zz k).2.1=nc at *
 have hc':(nc:Int)≤2:=by omega
 have hc0:(0:Int)≤nc:=by omega
 have hs3:w2.heap.size<w3.heap.size:=zg (a:=⟨w2.heap.size,1,none⟩) (by rw[hk3];rfl)
 have hk4:(w3.alloc (.cells #[.int .i64 x,.int .i64 y] 2)).cell? ⟨w2.heap.size,1,none⟩=some (I64 nc):=by rw[yc ((zi w3.heap.size w3).alloc (Nat.le_refl _) _) _ (by rw[hk3];rfl)];exact hk3
 go_region
 go_wp2_with fail
 go_ret
 exact⟨w3.heap.size,by rw[hnc];rfl,by simp,by simp,W3b.size,((W3b.alloc W3b.size _)).drew⟩

theorem zav (sb so:Nat) (bp:Option Addr) (len cap:Nat) (w:World) (h0:w.cell? ⟨sb,so,none⟩=some (.slice bp len cap)) :
  Calls Tryz.prog 83 #[.pointer (some ⟨sb,so,none⟩)] w (fun e w'=>e=.returned (.int .i64 (wrap64 ((len:Int)-1)))∧w'=w):=by
 go_enter Tryz.func83,Tryz.ntmps83
 go_wp2_with fail
 go_ret
 exact⟨rfl,rfl⟩
end Go.Proofs.YtbiacfkiakddiaaGreat
