/-
 Lemmas: W2.
-/
import Derived.Test.YtbiacfkiakddiaaGreatXah
set_option linter.unusedVariables false
set_option linter.unusedSimpArgs false
set_option maxHeartbeats 1000000
namespace Go.Proofs.YtbiacfkiakddiaaGreat
open Go.RowKit Go.Fl
set_option maxRecDepth 100000 in
theorem zi1 (b o bv ov cap r0 x y z:Nat) (w:World) (hk:w.cell? ⟨b,o,none⟩=some (.int .i64 0))
  (hs:w.cell? ⟨b,o+3,none⟩=some (.slice (some ⟨bv,ov,none⟩) 1 cap)) (h0:w.cell? ⟨bv,ov,none⟩=some (F1 r0)) :
  Calls Tryz.prog 217 #[.pointer (some ⟨b,o,none⟩),V3 x y z] w (Ret .f32 (zdg (cn .f32 x) (cn .f32 y) (cn .f32 z) (cn .f32 r0)) w):=by
 have hb:b<w.heap.size:=zg (a:=⟨b,o,none⟩) (by rw[hk];rfl)
 have hbv:bv<w.heap.size:=zg (a:=⟨bv,ov,none⟩) (by rw[h0];rfl)
 go_enter Tryz.func217,Tryz.ntmps217
 go_wp2_with fail
 refine Qr.wp_below 6 (by kernel_rfl) (by kernel_rfl) PhiF ?_
 repeat (refine Qr.walk_plain rfl fun K hK=>?_;(first|(refine zk _ _ _ _ _ rfl _ _ _ rfl rfl rfl (fun r hr=>?_))|(apply Qr.one_det;(focus (intro w' hw';have HL:=yc hw';go_simp;first|done|rfl)))|(apply Qr.one_call;(focus (intro w' hw';go_simp;first|done|exact⟨rfl,rfl⟩));(focus (intro w' hw';(first|(go_at_call 250;refine (ky _ _ _ _).mono ?_)|(go_at_call 176;refine (km _ _ _ _ _ _ _).mono ?_)|(go_at_call 90;refine (yb _ _).mono ?_)|(go_at_call 221;refine (yw _ _ _).mono ?_)|(go_at_call 222;refine (ym _ _ _).mono ?_)|(go_at_call 219;refine (q6 _ _ _).mono ?_));rintro _ w2⟨r1,rfl,hr1,hb1⟩;exact⟨_,rfl,by constructor<;>assumption,za hw' ‹_›,by assumption⟩));intro v hv;cases hv));go_simp;refine hK _ ?_;clear hK K)
 refine Qr.walk_nil fun w3 hw3=>?_
 go_wp2_with fail
 go_ret
 exact⟨_,rfl,by simp only[zdg,ye, *],(by repeat' (first|exact zi _ _|refine zd ?_ _|refine Below.alloc ?_ (by simp<;>omega) _|refine zj ?_ (by simp<;>omega) _|refine za ?_ ‹_›))⟩

set_option maxRecDepth 100000 in
theorem zrp (b o bv ov cap r0 r1 x y z:Nat) (w:World) (hk:w.cell? ⟨b,o,none⟩=some (.int .i64 2))
  (hs:w.cell? ⟨b,o+3,none⟩=some (.slice (some ⟨bv,ov,none⟩) 2 cap)) (h0:w.cell? ⟨bv,ov,none⟩=some (F1 r0)) (h1:w.cell? ⟨bv,ov+1,none⟩=some (F1 r1)) :
  Calls Tryz.prog 217 #[.pointer (some ⟨b,o,none⟩),V3 x y z] w (Ret .f32 (zt0 (cn .f32 x) (cn .f32 y) (cn .f32 z) (cn .f32 r0) (cn .f32 r1)) w):=by
 have hb:b<w.heap.size:=zg (a:=⟨b,o,none⟩) (by rw[hk];rfl)
 have hbv:bv<w.heap.size:=zg (a:=⟨bv,ov,none⟩) (by rw[h0];rfl)
 go_enter Tryz.func217,Tryz.ntmps217
 go_wp2_with fail
 refine Qr.wp_below 16 (by kernel_rfl) (by kernel_rfl) PhiF ?_
 repeat (refine Qr.walk_plain rfl fun K hK=>?_;(first|(refine zk _ _ _ _ _ rfl _ _ _ rfl rfl rfl (fun r hr=>?_))|(apply Qr.one_det;(focus (intro w' hw';have HL:=yc hw';go_simp;first|done|rfl)))|(apply Qr.one_call;(focus (intro w' hw';go_simp;first|done|exact⟨rfl,rfl⟩));(focus (intro w' hw';(first|(go_at_call 250;refine (ky _ _ _ _).mono ?_)|(go_at_call 176;refine (km _ _ _ _ _ _ _).mono ?_)|(go_at_call 90;refine (yb _ _).mono ?_)|(go_at_call 221;refine (yw _ _ _).mono ?_)|(go_at_call 222;refine (ym _ _ _).mono ?_)|(go_at_call 219;refine (q6 _ _ _).mono ?_));rintro _ w2⟨r1,rfl,hr1,hb1⟩;exact⟨_,rfl,by constructor<;>assumption,za hw' ‹_›,by assumption⟩));intro v hv;cases hv));go_simp;refine hK _ ?_;clear hK K)
 refine Qr.walk_nil fun w3 hw3=>?_
 go_wp2_with fail
 go_ret
 exact⟨_,rfl,by simp only[zt0,ye, *],(by repeat' (first|exact zi _ _|refine zd ?_ _|refine Below.alloc ?_ (by simp<;>omega) _|refine zj ?_ (by simp<;>omega) _|refine za ?_ ‹_›))⟩

set_option maxRecDepth 100000 in
theorem zsc (b o bv ov cap r0 r1 x y z:Nat) (w:World) (hk:w.cell? ⟨b,o,none⟩=some (.int .i64 3))
  (hs:w.cell? ⟨b,o+3,none⟩=some (.slice (some ⟨bv,ov,none⟩) 2 cap)) (h0:w.cell? ⟨bv,ov,none⟩=some (F1 r0)) (h1:w.cell? ⟨bv,ov+1,none⟩=some (F1 r1)) :
  Calls Tryz.prog 217 #[.pointer (some ⟨b,o,none⟩),V3 x y z] w (Ret .f32 (zkt (cn .f32 x) (cn .f32 y) (cn .f32 z) (cn .f32 r0) (cn .f32 r1)) w):=by
 have hb:b<w.heap.size:=zg (a:=⟨b,o,none⟩) (by rw[hk];rfl)
 have hbv:bv<w.heap.size:=zg (a:=⟨bv,ov,none⟩) (by rw[h0];rfl)
 go_enter Tryz.func217,Tryz.ntmps217
 go_wp2_with fail
 refine Qr.wp_below 18 (by kernel_rfl) (by kernel_rfl) PhiF ?_
 repeat (refine Qr.walk_plain rfl fun K hK=>?_;(first|(refine zk _ _ _ _ _ rfl _ _ _ rfl rfl rfl (fun r hr=>?_))|(apply Qr.one_det;(focus (intro w' hw';have HL:=yc hw';go_simp;first|done|rfl)))|(apply Qr.one_call;(focus (intro w' hw';go_simp;first|done|exact⟨rfl,rfl⟩));(focus (intro w' hw';(first|(go_at_call 250;refine (ky _ _ _ _).mono ?_)|(go_at_call 176;refine (km _ _ _ _ _ _ _).mono ?_)|(go_at_call 90;refine (yb _ _).mono ?_)|(go_at_call 221;refine (yw _ _ _).mono ?_)|(go_at_call 222;refine (ym _ _ _).mono ?_)|(go_at_call 219;refine (q6 _ _ _).mono ?_));rintro _ w2⟨r1,rfl,hr1,hb1⟩;exact⟨_,rfl,by constructor<;>assumption,za hw' ‹_›,by assumption⟩));intro v hv;cases hv));go_simp;refine hK _ ?_;clear hK K)
 refine Qr.walk_nil fun w3 hw3=>?_
 go_wp2_with fail
 go_ret
 exact⟨_,rfl,by simp only[zkt,ye, *],(by repeat' (first|exact zi _ _|refine zd ?_ _|refine Below.alloc ?_ (by simp<;>omega) _|refine zj ?_ (by simp<;>omega) _|refine za ?_ ‹_›))⟩

set_option maxRecDepth 100000 in
theorem zpc (b o bv ov cap r0 r1 r2 r3 x y z:Nat) (w:World) (hk:w.cell? ⟨b,o,none⟩=some (.int .i64 4))
  (hs:w.cell? ⟨b,o+3,none⟩=some (.slice (some ⟨bv,ov,none⟩) 4 cap)) (h0:w.cell? ⟨bv,ov,none⟩=some (F1 r0)) (h1:w.cell? ⟨bv,ov+1,none⟩=some (F1 r1)) (h2:w.cell? ⟨bv,ov+2,none⟩=some (F1 r2)) (h3:w.cell? ⟨bv,ov+3,none⟩=some (F1 r3)) :
  Calls Tryz.prog 217 #[.pointer (some ⟨b,o,none⟩),V3 x y z] w (Ret .f32 (zer (cn .f32 x) (cn .f32 y) (cn .f32 z) (cn .f32 r0) (cn .f32 r1) (cn .f32 r2) (cn .f32 r3)) w):=by
 have hb:b<w.heap.size:=zg (a:=⟨b,o,none⟩) (by rw[hk];rfl)
 have hbv:bv<w.heap.size:=zg (a:=⟨bv,ov,none⟩) (by rw[h0];rfl)
 go_enter Tryz.func217,Tryz.ntmps217
 go_wp2_with fail
 refine Qr.wp_below 16 (by kernel_rfl) (by kernel_rfl) PhiF ?_
 repeat (refine Qr.walk_plain rfl fun K hK=>?_;(first|(refine zk _ _ _ _ _ rfl _ _ _ rfl rfl rfl (fun r hr=>?_))|(apply Qr.one_det;(focus (intro w' hw';have HL:=yc hw';go_simp;first|done|rfl)))|(apply Qr.one_call;(focus (intro w' hw';go_simp;first|done|exact⟨rfl,rfl⟩));(focus (intro w' hw';(first|(go_at_call 250;refine (ky _ _ _ _).mono ?_)|(go_at_call 176;refine (km _ _ _ _ _ _ _).mono ?_)|(go_at_call 90;refine (yb _ _).mono ?_)|(go_at_call 221;refine (yw _ _ _).mono ?_)|(go_at_call 222;refine (ym _ _ _).mono ?_)|(go_at_call 219;refine (q6 _ _ _).mono ?_));rintro _ w2⟨r1,rfl,hr1,hb1⟩;exact⟨_,rfl,by constructor<;>assumption,za hw' ‹_›,by assumption⟩));intro v hv;cases hv));go_simp;refine hK _ ?_;clear hK K)
 refine Qr.walk_nil fun w3 hw3=>?_
 go_wp2_with fail
 go_ret
 exact⟨_,rfl,by simp only[zer,ye, *],(by repeat' (first|exact zi _ _|refine zd ?_ _|refine Below.alloc ?_ (by simp<;>omega) _|refine zj ?_ (by simp<;>omega) _|refine za ?_ ‹_›))⟩

set_option maxRecDepth 100000 in
theorem zlu (b o bv ov cap r0 r1 r2 x y z:Nat) (w:World) (hk:w.cell? ⟨b,o,none⟩=some (.int .i64 1))
  (hs:w.cell? ⟨b,o+3,none⟩=some (.slice (some ⟨bv,ov,none⟩) 3 cap)) (h0:w.cell? ⟨bv,ov,none⟩=some (F1 r0)) (h1:w.cell? ⟨bv,ov+1,none⟩=some (F1 r1)) (h2:w.cell? ⟨bv,ov+2,none⟩=some (F1 r2)) :
  Calls Tryz.prog 217 #[.pointer (some ⟨b,o,none⟩),V3 x y z] w (Ret .f32 (zce (cn .f32 x) (cn .f32 y) (cn .f32 z) (cn .f32 r0) (cn .f32 r1) (cn .f32 r2)) w):=by
 have hb:b<w.heap.size:=zg (a:=⟨b,o,none⟩) (by rw[hk];rfl)
 have hbv:bv<w.heap.size:=zg (a:=⟨bv,ov,none⟩) (by rw[h0];rfl)
 go_enter Tryz.func217,Tryz.ntmps217
 go_wp2_with fail
 refine Qr.wp_below_all (by kernel_rfl) (by kernel_rfl) PhiF ?_
 repeat (refine Qr.walk_plain rfl fun K hK=>?_;(first|(refine zk _ _ _ _ _ rfl _ _ _ rfl rfl rfl (fun r hr=>?_))|(apply Qr.one_det;(focus (intro w' hw';have HL:=yc hw';go_simp;first|done|rfl)))|(apply Qr.one_call;(focus (intro w' hw';go_simp;first|done|exact⟨rfl,rfl⟩));(focus (intro w' hw';(first|(go_at_call 250;refine (ky _ _ _ _).mono ?_)|(go_at_call 176;refine (km _ _ _ _ _ _ _).mono ?_)|(go_at_call 90;refine (yb _ _).mono ?_)|(go_at_call 221;refine (yw _ _ _).mono ?_)|(go_at_call 222;refine (ym _ _ _).mono ?_)|(go_at_call 219;refine (q6 _ _ _).mono ?_));rintro _ w2⟨r1,rfl,hr1,hb1⟩;exact⟨_,rfl,by constructor<;>assumption,za hw' ‹_›,by assumption⟩));intro v hv;cases hv));go_simp;refine hK _ ?_;clear hK K)
 refine Qr.walk_nil fun w3 hw3=>?_
 go_wp2_with (first|(go_at_call 250;refine (ky _ _ _ _).mono ?_;rintro _ w2⟨r1,rfl,hr1,hb1⟩;have HL:=yc hb1;have HF:=z9 hb1)|(go_at_call 176;refine (km _ _ _ _ _ _ _).mono ?_;rintro _ w2⟨r1,rfl,hr1,hb1⟩;have HL:=yc hb1;have HF:=z9 hb1)|(go_at_call 90;refine (yb _ _).mono ?_;rintro _ w2⟨r1,rfl,hr1,hb1⟩;have HL:=yc hb1;have HF:=z9 hb1)|(go_at_call 221;refine (yw _ _ _).mono ?_;rintro _ w2⟨r1,rfl,hr1,hb1⟩;have HL:=yc hb1;have HF:=z9 hb1)|(go_at_call 222;refine (ym _ _ _).mono ?_;rintro _ w2⟨r1,rfl,hr1,hb1⟩;have HL:=yc hb1;have HF:=z9 hb1)|(go_at_call 219;refine (q6 _ _ _).mono ?_;rintro _ w2⟨r1,rfl,hr1,hb1⟩;have HL:=yc hb1;have HF:=z9 hb1)|(refine z6 rfl _ _ _ _ _ rfl _ _ _ rfl rfl rfl ?_;intro r n hr))
 go_ret
 exact⟨_,rfl,by simp only[zce,ye, *],(by repeat' (first|exact zi _ _|refine zd ?_ _|refine Below.alloc ?_ (by simp<;>omega) _|refine zj ?_ (by simp<;>omega) _|refine za ?_ ‹_›))⟩

end Go.Proofs.YtbiacfkiakddiaaGreat
