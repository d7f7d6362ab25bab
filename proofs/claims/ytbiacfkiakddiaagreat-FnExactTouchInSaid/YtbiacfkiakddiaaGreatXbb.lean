/-
 Lemmas: S4.
-/
import Derived.Test.YtbiacfkiakddiaaGreatXas
set_option linter.unusedVariables false
set_option linter.unusedSimpArgs false
set_option maxHeartbeats 1000000
namespace Go.Proofs.YtbiacfkiakddiaaGreat
open Go.RowKit Go.Fl
def ja (x y z u v t:Nat):Nat :=
 B .add (jo (z7 0 (B .sub (vj x) u)) (z7 0 (B .sub (vj y) v)) (z7 0 (B .sub (vj z) t)))
  (yo 0 (z7 (z7 (B .sub (vj x) u) (B .sub (vj y) v)) (B .sub (vj z) t)))
def zte (x y z h r:Nat):Nat:=B .sub (jo x (B .sub y (yo (z7 0 y) h)) z) r
def zmi (x y z u r:Nat):Nat:=B .sub (jo (B .sub (jo x 0 z) u) y 0) r

set_option maxRecDepth 100000 in
theorem zcm (b o bv ov cap r0 x y z:Nat) (w:World) (hk:w.cell? ⟨b,o,none⟩=some (.int .i64 0))
  (hs:w.cell? ⟨b,o+3,none⟩=some (.slice (some ⟨bv,ov,none⟩) 1 cap)) (h0:w.cell? ⟨bv,ov,none⟩=some (F1 r0)) :
  Calls Tryz.prog 196 #[.pointer (some ⟨b,o,none⟩),V3 x y z] w (Ret .f32 (zdg (cn .f32 x) (cn .f32 y) (cn .f32 z) (cn .f32 r0)) w):=by
 have hb:b<w.heap.size:=zg (a:=⟨b,o,none⟩) (by rw[hk];rfl)
 have hbv:bv<w.heap.size:=zg (a:=⟨bv,ov,none⟩) (by rw[h0];rfl)
 go_enter Tryz.func196,Tryz.ntmps196
 go_wp2_with (first|(go_at_call 242;refine (yv _ _ _ _).mono ?_;rintro _ w2⟨r1,rfl,hr1,hb1⟩;have HL:=yc hb1;have HF:=z9 hb1)|(go_at_call 165;refine (yq _ _ _ _ _ _ _).mono ?_;rintro _ w2⟨r1,rfl,hr1,hb1⟩;have HL:=yc hb1;have HF:=z9 hb1)|(go_at_call 88;refine (yd _ _).mono ?_;rintro _ w2⟨r1,rfl,hr1,hb1⟩;have HL:=yc hb1;have HF:=z9 hb1)|(go_at_call 197;refine (zu _ _ _).mono ?_;rintro _ w2⟨r1,rfl,hr1,hb1⟩;have HL:=yc hb1;have HF:=z9 hb1)|(go_at_call 198;refine (zp _ _ _).mono ?_;rintro _ w2⟨r1,rfl,hr1,hb1⟩;have HL:=yc hb1;have HF:=z9 hb1)|(refine z6 rfl _ _ _ _ _ rfl _ _ _ rfl rfl rfl ?_;intro r n hr))
 refine Qr.wp_below_all (by kernel_rfl) (by kernel_rfl) PhiS ?_
 repeat (refine Qr.walk_plain rfl fun K hK=>?_;(first|(refine zk _ _ _ _ _ rfl _ _ _ rfl rfl rfl (fun r hr=>?_))|(apply Qr.one_det;(focus (intro w' hw';have HL:=yc hw';go_simp;first|done|rfl)))|(apply Qr.one_call;(focus (intro w' hw';go_simp;first|done|exact⟨rfl,rfl⟩));(focus (intro w' hw';(first|(go_at_call 242;refine (yv _ _ _ _).mono ?_)|(go_at_call 165;refine (yq _ _ _ _ _ _ _).mono ?_)|(go_at_call 88;refine (yd _ _).mono ?_)|(go_at_call 197;refine (zu _ _ _).mono ?_)|(go_at_call 198;refine (zp _ _ _).mono ?_));rintro _ w2⟨r1,rfl,hr1,hb1⟩;exact⟨_,rfl,by constructor<;>assumption,za hw' ‹_›,by assumption⟩));intro v hv;cases hv));go_simp;refine hK _ ?_;clear hK K)
 refine Qr.walk_nil fun w3 hw3=>?_
 have HL3:=yc hw3
 go_wp2_with (first|(go_at_call 242;refine (yv _ _ _ _).mono ?_;rintro _ w2⟨r1,rfl,hr1,hb1⟩;have HL:=yc hb1;have HF:=z9 hb1)|(go_at_call 165;refine (yq _ _ _ _ _ _ _).mono ?_;rintro _ w2⟨r1,rfl,hr1,hb1⟩;have HL:=yc hb1;have HF:=z9 hb1)|(go_at_call 88;refine (yd _ _).mono ?_;rintro _ w2⟨r1,rfl,hr1,hb1⟩;have HL:=yc hb1;have HF:=z9 hb1)|(go_at_call 197;refine (zu _ _ _).mono ?_;rintro _ w2⟨r1,rfl,hr1,hb1⟩;have HL:=yc hb1;have HF:=z9 hb1)|(go_at_call 198;refine (zp _ _ _).mono ?_;rintro _ w2⟨r1,rfl,hr1,hb1⟩;have HL:=yc hb1;have HF:=z9 hb1)|(refine z6 rfl _ _ _ _ _ rfl _ _ _ rfl rfl rfl ?_;intro r n hr))
 go_ret
 exact⟨_,rfl,by simp only[zdg,ye, *],(by repeat' (first|exact zi _ _|refine zd ?_ _|refine Below.alloc ?_ (by simp<;>omega) _|refine zj ?_ (by simp<;>omega) _|refine za ?_ ‹_›))⟩

set_option maxRecDepth 100000 in
theorem znq (b o bv ov cap r0 r1 x y z:Nat) (w:World) (hk:w.cell? ⟨b,o,none⟩=some (.int .i64 2))
  (hs:w.cell? ⟨b,o+3,none⟩=some (.slice (some ⟨bv,ov,none⟩) 2 cap)) (h0:w.cell? ⟨bv,ov,none⟩=some (F1 r0)) (h1:w.cell? ⟨bv,ov+1,none⟩=some (F1 r1)) :
  Calls Tryz.prog 196 #[.pointer (some ⟨b,o,none⟩),V3 x y z] w (Ret .f32 (zte (cn .f32 x) (cn .f32 y) (cn .f32 z) (cn .f32 r0) (cn .f32 r1)) w):=by
 have hb:b<w.heap.size:=zg (a:=⟨b,o,none⟩) (by rw[hk];rfl)
 have hbv:bv<w.heap.size:=zg (a:=⟨bv,ov,none⟩) (by rw[h0];rfl)
 have hk0:zc [(⟨b,o,none⟩,.int .i64 2),(⟨b,o+3,none⟩,.slice (some ⟨bv,ov,none⟩) 2 cap),(⟨bv,ov,none⟩,F1 r0),(⟨bv,ov+1,none⟩,F1 r1)] [] w:=kof (by simp only[List.forall_mem_cons,List.not_mem_nil,false_implies,implies_true,and_true];exact⟨hk,hs,h0,h1⟩)
 go_enter Tryz.func196,Tryz.ntmps196
 go_wp2_with (first|(go_at_call 242;refine (yv _ _ _ _).mono ?_;rintro _ w2⟨r1,rfl,hr1,hb1⟩;have HL:=yc hb1;have HF:=z9 hb1)|(go_at_call 165;refine (yq _ _ _ _ _ _ _).mono ?_;rintro _ w2⟨r1,rfl,hr1,hb1⟩;have HL:=yc hb1;have HF:=z9 hb1)|(go_at_call 88;refine (yd _ _).mono ?_;rintro _ w2⟨r1,rfl,hr1,hb1⟩;have HL:=yc hb1;have HF:=z9 hb1)|(go_at_call 197;refine (zu _ _ _).mono ?_;rintro _ w2⟨r1,rfl,hr1,hb1⟩;have HL:=yc hb1;have HF:=z9 hb1)|(go_at_call 198;refine (zp _ _ _).mono ?_;rintro _ w2⟨r1,rfl,hr1,hb1⟩;have HL:=yc hb1;have HF:=z9 hb1)|(refine z6 rfl _ _ _ _ _ rfl _ _ _ rfl rfl rfl ?_;intro r n hr))
 have Wb:Below w.heap.size w (w.alloc (.cells #[F1 x,F1 y,F1 z] 38)):=(by repeat' (first|exact zi _ _|refine zd ?_ _|refine Below.alloc ?_ (by simp<;>omega) _|refine zj ?_ (by simp<;>omega) _|refine za ?_ ‹_›))

 have hkept:=ze (keep hk0 Wb) (show zc [(⟨w.heap.size,0,none⟩,F1 x),(⟨w.heap.size,1,none⟩,F1 y),(⟨w.heap.size,2,none⟩,F1 z)] [] (w.alloc (.cells #[F1 x,F1 y,F1 z] 38)) by
  simp only[zc,ka,kb,zb,kfa,kga];simp)
 clear hk0
 generalize (w.alloc (.cells #[F1 x,F1 y,F1 z] 38))=W1 at Wb hkept ⊢
 have hK:=hkept
 simp only[zc,ka,kb,zb,kfa,kga]at hK
 refine Qr.wp_below_all (by kernel_rfl) (by kernel_rfl) PhiS ?_
 repeat (refine Qr.walk_plain rfl fun K hK=>?_;(first|(refine zk _ _ _ _ _ rfl _ _ _ rfl rfl rfl (fun r hr=>?_))|(apply Qr.one_det;(focus (intro w' hw';have HK:=keep hkept hw';simp only[zc,ka,kb,zb,kfa,kga]at HK;go_simp;first|done|rfl)))|(apply Qr.one_call;(focus (intro w' hw';go_simp;first|done|exact⟨rfl,rfl⟩));(focus (intro w' hw';(first|(go_at_call 242;refine (yv _ _ _ _).mono ?_)|(go_at_call 165;refine (yq _ _ _ _ _ _ _).mono ?_)|(go_at_call 88;refine (yd _ _).mono ?_)|(go_at_call 197;refine (zu _ _ _).mono ?_)|(go_at_call 198;refine (zp _ _ _).mono ?_));rintro _ w2⟨r1,rfl,hr1,hb1⟩;exact⟨_,rfl,by constructor<;>assumption,za hw' ‹_›,by assumption⟩));intro v hv;cases hv));go_simp;refine hK _ ?_;clear hK K)
 refine Qr.walk_nil fun w3 hw3=>?_
 have hkept:=keep hkept hw3
 have Wb:=za Wb hw3
 clear hK
 have hK:=hkept
 simp only[zc,ka,kb,zb,kfa,kga]at hK
 go_wp2_with (first|(go_at_call 242;refine (yv _ _ _ _).mono ?_;rintro _ w2⟨r1,rfl,hr1,hb1⟩;have HL:=yc hb1;have HF:=z9 hb1)|(go_at_call 165;refine (yq _ _ _ _ _ _ _).mono ?_;rintro _ w2⟨r1,rfl,hr1,hb1⟩;have HL:=yc hb1;have HF:=z9 hb1)|(go_at_call 88;refine (yd _ _).mono ?_;rintro _ w2⟨r1,rfl,hr1,hb1⟩;have HL:=yc hb1;have HF:=z9 hb1)|(go_at_call 197;refine (zu _ _ _).mono ?_;rintro _ w2⟨r1,rfl,hr1,hb1⟩;have HL:=yc hb1;have HF:=z9 hb1)|(go_at_call 198;refine (zp _ _ _).mono ?_;rintro _ w2⟨r1,rfl,hr1,hb1⟩;have HL:=yc hb1;have HF:=z9 hb1)|(refine z6 rfl _ _ _ _ _ rfl _ _ _ rfl rfl rfl ?_;intro r n hr))
 refine Qr.wp_below_all (by kernel_rfl) (by kernel_rfl) PhiS ?_
 repeat (refine Qr.walk_plain rfl fun K hK=>?_;(first|(refine zk _ _ _ _ _ rfl _ _ _ rfl rfl rfl (fun r hr=>?_))|(apply Qr.one_det;(focus (intro w' hw';have HK:=keep hkept hw';simp only[zc,ka,kb,zb,kfa,kga]at HK;go_simp;first|done|rfl)))|(apply Qr.one_call;(focus (intro w' hw';go_simp;first|done|exact⟨rfl,rfl⟩));(focus (intro w' hw';(first|(go_at_call 242;refine (yv _ _ _ _).mono ?_)|(go_at_call 165;refine (yq _ _ _ _ _ _ _).mono ?_)|(go_at_call 88;refine (yd _ _).mono ?_)|(go_at_call 197;refine (zu _ _ _).mono ?_)|(go_at_call 198;refine (zp _ _ _).mono ?_));rintro _ w2⟨r1,rfl,hr1,hb1⟩;exact⟨_,rfl,by constructor<;>assumption,za hw' ‹_›,by assumption⟩));intro v hv;cases hv));go_simp;refine hK _ ?_;clear hK K)
 refine Qr.walk_nil fun w3 hw3=>?_
 have hkept:=keep hkept hw3
 have Wb:=za Wb hw3
 clear hK
 have hK:=hkept
 simp only[zc,ka,kb,zb,kfa,kga]at hK
 go_wp2_with (first|(go_at_call 242;refine (yv _ _ _ _).mono ?_;rintro _ w2⟨r1,rfl,hr1,hb1⟩;have HL:=yc hb1;have HF:=z9 hb1)|(go_at_call 165;refine (yq _ _ _ _ _ _ _).mono ?_;rintro _ w2⟨r1,rfl,hr1,hb1⟩;have HL:=yc hb1;have HF:=z9 hb1)|(go_at_call 88;refine (yd _ _).mono ?_;rintro _ w2⟨r1,rfl,hr1,hb1⟩;have HL:=yc hb1;have HF:=z9 hb1)|(go_at_call 197;refine (zu _ _ _).mono ?_;rintro _ w2⟨r1,rfl,hr1,hb1⟩;have HL:=yc hb1;have HF:=z9 hb1)|(go_at_call 198;refine (zp _ _ _).mono ?_;rintro _ w2⟨r1,rfl,hr1,hb1⟩;have HL:=yc hb1;have HF:=z9 hb1)|(refine z6 rfl _ _ _ _ _ rfl _ _ _ rfl rfl rfl ?_;intro r n hr))
 go_ret
 exact⟨_,rfl,by simp only[zte,ye, *],(by repeat' (first|exact zi _ _|refine zd ?_ _|refine Below.alloc ?_ (by simp<;>omega) _|refine zj ?_ (by simp<;>omega) _|refine za ?_ ‹_›))⟩

set_option maxRecDepth 100000 in
theorem zna (b o bv ov cap r0 r1 x y z:Nat) (w:World) (hk:w.cell? ⟨b,o,none⟩=some (.int .i64 3))
  (hs:w.cell? ⟨b,o+3,none⟩=some (.slice (some ⟨bv,ov,none⟩) 2 cap)) (h0:w.cell? ⟨bv,ov,none⟩=some (F1 r0)) (h1:w.cell? ⟨bv,ov+1,none⟩=some (F1 r1)) :
  Calls Tryz.prog 196 #[.pointer (some ⟨b,o,none⟩),V3 x y z] w (Ret .f32 (zmi (cn .f32 x) (cn .f32 y) (cn .f32 z) (cn .f32 r0) (cn .f32 r1)) w):=by
 have hb:b<w.heap.size:=zg (a:=⟨b,o,none⟩) (by rw[hk];rfl)
 have hbv:bv<w.heap.size:=zg (a:=⟨bv,ov,none⟩) (by rw[h0];rfl)
 have hk0:zc [(⟨b,o,none⟩,.int .i64 3),(⟨b,o+3,none⟩,.slice (some ⟨bv,ov,none⟩) 2 cap),(⟨bv,ov,none⟩,F1 r0),(⟨bv,ov+1,none⟩,F1 r1)] [] w:=kof (by simp only[List.forall_mem_cons,List.not_mem_nil,false_implies,implies_true,and_true];exact⟨hk,hs,h0,h1⟩)
 go_enter Tryz.func196,Tryz.ntmps196
 go_wp2_with (first|(go_at_call 242;refine (yv _ _ _ _).mono ?_;rintro _ w2⟨r1,rfl,hr1,hb1⟩;have HL:=yc hb1;have HF:=z9 hb1)|(go_at_call 165;refine (yq _ _ _ _ _ _ _).mono ?_;rintro _ w2⟨r1,rfl,hr1,hb1⟩;have HL:=yc hb1;have HF:=z9 hb1)|(go_at_call 88;refine (yd _ _).mono ?_;rintro _ w2⟨r1,rfl,hr1,hb1⟩;have HL:=yc hb1;have HF:=z9 hb1)|(go_at_call 197;refine (zu _ _ _).mono ?_;rintro _ w2⟨r1,rfl,hr1,hb1⟩;have HL:=yc hb1;have HF:=z9 hb1)|(go_at_call 198;refine (zp _ _ _).mono ?_;rintro _ w2⟨r1,rfl,hr1,hb1⟩;have HL:=yc hb1;have HF:=z9 hb1)|(refine z6 rfl _ _ _ _ _ rfl _ _ _ rfl rfl rfl ?_;intro r n hr))
 have Wb:Below w.heap.size w (w.alloc (.cells #[F1 x,F1 y,F1 z] 38)):=(by repeat' (first|exact zi _ _|refine zd ?_ _|refine Below.alloc ?_ (by simp<;>omega) _|refine zj ?_ (by simp<;>omega) _|refine za ?_ ‹_›))

 have hkept:=ze (keep hk0 Wb) (show zc [(⟨w.heap.size,0,none⟩,F1 x),(⟨w.heap.size,1,none⟩,F1 y),(⟨w.heap.size,2,none⟩,F1 z)] [] (w.alloc (.cells #[F1 x,F1 y,F1 z] 38)) by
  simp only[zc,ka,kb,zb,kfa,kga];simp)
 clear hk0
 generalize (w.alloc (.cells #[F1 x,F1 y,F1 z] 38))=W1 at Wb hkept ⊢
 have hK:=hkept
 simp only[zc,ka,kb,zb,kfa,kga]at hK
 refine Qr.wp_below_all (by kernel_rfl) (by kernel_rfl) PhiS ?_
 repeat (refine Qr.walk_plain rfl fun K hK=>?_;(first|(refine zk _ _ _ _ _ rfl _ _ _ rfl rfl rfl (fun r hr=>?_))|(apply Qr.one_det;(focus (intro w' hw';have HK:=keep hkept hw';simp only[zc,ka,kb,zb,kfa,kga]at HK;go_simp;first|done|rfl)))|(apply Qr.one_call;(focus (intro w' hw';go_simp;first|done|exact⟨rfl,rfl⟩));(focus (intro w' hw';(first|(go_at_call 242;refine (yv _ _ _ _).mono ?_)|(go_at_call 165;refine (yq _ _ _ _ _ _ _).mono ?_)|(go_at_call 88;refine (yd _ _).mono ?_)|(go_at_call 197;refine (zu _ _ _).mono ?_)|(go_at_call 198;refine (zp _ _ _).mono ?_));rintro _ w2⟨r1,rfl,hr1,hb1⟩;exact⟨_,rfl,by constructor<;>assumption,za hw' ‹_›,by assumption⟩));intro v hv;cases hv));go_simp;refine hK _ ?_;clear hK K)
 refine Qr.walk_nil fun w3 hw3=>?_
 have hkept:=keep hkept hw3
 have Wb:=za Wb hw3
 clear hK
 have hK:=hkept
 simp only[zc,ka,kb,zb,kfa,kga]at hK
 go_wp2_with (first|(go_at_call 242;refine (yv _ _ _ _).mono ?_;rintro _ w2⟨r1,rfl,hr1,hb1⟩;have HL:=yc hb1;have HF:=z9 hb1)|(go_at_call 165;refine (yq _ _ _ _ _ _ _).mono ?_;rintro _ w2⟨r1,rfl,hr1,hb1⟩;have HL:=yc hb1;have HF:=z9 hb1)|(go_at_call 88;refine (yd _ _).mono ?_;rintro _ w2⟨r1,rfl,hr1,hb1⟩;have HL:=yc hb1;have HF:=z9 hb1)|(go_at_call 197;refine (zu _ _ _).mono ?_;rintro _ w2⟨r1,rfl,hr1,hb1⟩;have HL:=yc hb1;have HF:=z9 hb1)|(go_at_call 198;refine (zp _ _ _).mono ?_;rintro _ w2⟨r1,rfl,hr1,hb1⟩;have HL:=yc hb1;have HF:=z9 hb1)|(refine z6 rfl _ _ _ _ _ rfl _ _ _ rfl rfl rfl ?_;intro r n hr))
 refine Qr.wp_below_all (by kernel_rfl) (by kernel_rfl) PhiS ?_
 repeat (refine Qr.walk_plain rfl fun K hK=>?_;(first|(refine zk _ _ _ _ _ rfl _ _ _ rfl rfl rfl (fun r hr=>?_))|(apply Qr.one_det;(focus (intro w' hw';have HK:=keep hkept hw';simp only[zc,ka,kb,zb,kfa,kga]at HK;go_simp;first|done|rfl)))|(apply Qr.one_call;(focus (intro w' hw';go_simp;first|done|exact⟨rfl,rfl⟩));(focus (intro w' hw';(first|(go_at_call 242;refine (yv _ _ _ _).mono ?_)|(go_at_call 165;refine (yq _ _ _ _ _ _ _).mono ?_)|(go_at_call 88;refine (yd _ _).mono ?_)|(go_at_call 197;refine (zu _ _ _).mono ?_)|(go_at_call 198;refine (zp _ _ _).mono ?_));rintro _ w2⟨r1,rfl,hr1,hb1⟩;exact⟨_,rfl,by constructor<;>assumption,za hw' ‹_›,by assumption⟩));intro v hv;cases hv));go_simp;refine hK _ ?_;clear hK K)
 refine Qr.walk_nil fun w3 hw3=>?_
 have hkept:=keep hkept hw3
 have Wb:=za Wb hw3
 clear hK
 have hK:=hkept
 simp only[zc,ka,kb,zb,kfa,kga]at hK
 go_wp2_with (first|(go_at_call 242;refine (yv _ _ _ _).mono ?_;rintro _ w2⟨r1,rfl,hr1,hb1⟩;have HL:=yc hb1;have HF:=z9 hb1)|(go_at_call 165;refine (yq _ _ _ _ _ _ _).mono ?_;rintro _ w2⟨r1,rfl,hr1,hb1⟩;have HL:=yc hb1;have HF:=z9 hb1)|(go_at_call 88;refine (yd _ _).mono ?_;rintro _ w2⟨r1,rfl,hr1,hb1⟩;have HL:=yc hb1;have HF:=z9 hb1)|(go_at_call 197;refine (zu _ _ _).mono ?_;rintro _ w2⟨r1,rfl,hr1,hb1⟩;have HL:=yc hb1;have HF:=z9 hb1)|(go_at_call 198;refine (zp _ _ _).mono ?_;rintro _ w2⟨r1,rfl,hr1,hb1⟩;have HL:=yc hb1;have HF:=z9 hb1)|(refine z6 rfl _ _ _ _ _ rfl _ _ _ rfl rfl rfl ?_;intro r n hr))
 go_ret
 exact⟨_,rfl,by simp only[zmi,ye, *],(by repeat' (first|exact zi _ _|refine zd ?_ _|refine Below.alloc ?_ (by simp<;>omega) _|refine zj ?_ (by simp<;>omega) _|refine za ?_ ‹_›))⟩

set_option maxRecDepth 100000 in
theorem zj1 (b o bv ov cap r0 r1 r2 r3 x y z:Nat) (w:World) (hk:w.cell? ⟨b,o,none⟩=some (.int .i64 4))
  (hs:w.cell? ⟨b,o+3,none⟩=some (.slice (some ⟨bv,ov,none⟩) 4 cap)) (h0:w.cell? ⟨bv,ov,none⟩=some (F1 r0)) (h1:w.cell? ⟨bv,ov+1,none⟩=some (F1 r1)) (h2:w.cell? ⟨bv,ov+2,none⟩=some (F1 r2)) (h3:w.cell? ⟨bv,ov+3,none⟩=some (F1 r3)) :
  Calls Tryz.prog 196 #[.pointer (some ⟨b,o,none⟩),V3 x y z] w (Ret .f32 (zer (cn .f32 x) (cn .f32 y) (cn .f32 z) (cn .f32 r0) (cn .f32 r1) (cn .f32 r2) (cn .f32 r3)) w):=by
 have hb:b<w.heap.size:=zg (a:=⟨b,o,none⟩) (by rw[hk];rfl)
 have hbv:bv<w.heap.size:=zg (a:=⟨bv,ov,none⟩) (by rw[h0];rfl)
 go_enter Tryz.func196,Tryz.ntmps196
 go_wp2_with (first|(go_at_call 242;refine (yv _ _ _ _).mono ?_;rintro _ w2⟨r1,rfl,hr1,hb1⟩;have HL:=yc hb1;have HF:=z9 hb1)|(go_at_call 165;refine (yq _ _ _ _ _ _ _).mono ?_;rintro _ w2⟨r1,rfl,hr1,hb1⟩;have HL:=yc hb1;have HF:=z9 hb1)|(go_at_call 88;refine (yd _ _).mono ?_;rintro _ w2⟨r1,rfl,hr1,hb1⟩;have HL:=yc hb1;have HF:=z9 hb1)|(go_at_call 197;refine (zu _ _ _).mono ?_;rintro _ w2⟨r1,rfl,hr1,hb1⟩;have HL:=yc hb1;have HF:=z9 hb1)|(go_at_call 198;refine (zp _ _ _).mono ?_;rintro _ w2⟨r1,rfl,hr1,hb1⟩;have HL:=yc hb1;have HF:=z9 hb1)|(refine z6 rfl _ _ _ _ _ rfl _ _ _ rfl rfl rfl ?_;intro r n hr))
 refine Qr.wp_below_all (by kernel_rfl) (by kernel_rfl) PhiS ?_
 repeat (refine Qr.walk_plain rfl fun K hK=>?_;(first|(refine zk _ _ _ _ _ rfl _ _ _ rfl rfl rfl (fun r hr=>?_))|(apply Qr.one_det;(focus (intro w' hw';have HL:=yc hw';go_simp;first|done|rfl)))|(apply Qr.one_call;(focus (intro w' hw';go_simp;first|done|exact⟨rfl,rfl⟩));(focus (intro w' hw';(first|(go_at_call 242;refine (yv _ _ _ _).mono ?_)|(go_at_call 165;refine (yq _ _ _ _ _ _ _).mono ?_)|(go_at_call 88;refine (yd _ _).mono ?_)|(go_at_call 197;refine (zu _ _ _).mono ?_)|(go_at_call 198;refine (zp _ _ _).mono ?_));rintro _ w2⟨r1,rfl,hr1,hb1⟩;exact⟨_,rfl,by constructor<;>assumption,za hw' ‹_›,by assumption⟩));intro v hv;cases hv));go_simp;refine hK _ ?_;clear hK K)
 refine Qr.walk_nil fun w3 hw3=>?_
 have HL3:=yc hw3
 go_wp2_with (first|(go_at_call 242;refine (yv _ _ _ _).mono ?_;rintro _ w2⟨r1,rfl,hr1,hb1⟩;have HL:=yc hb1;have HF:=z9 hb1)|(go_at_call 165;refine (yq _ _ _ _ _ _ _).mono ?_;rintro _ w2⟨r1,rfl,hr1,hb1⟩;have HL:=yc hb1;have HF:=z9 hb1)|(go_at_call 88;refine (yd _ _).mono ?_;rintro _ w2⟨r1,rfl,hr1,hb1⟩;have HL:=yc hb1;have HF:=z9 hb1)|(go_at_call 197;refine (zu _ _ _).mono ?_;rintro _ w2⟨r1,rfl,hr1,hb1⟩;have HL:=yc hb1;have HF:=z9 hb1)|(go_at_call 198;refine (zp _ _ _).mono ?_;rintro _ w2⟨r1,rfl,hr1,hb1⟩;have HL:=yc hb1;have HF:=z9 hb1)|(refine z6 rfl _ _ _ _ _ rfl _ _ _ rfl rfl rfl ?_;intro r n hr))
 go_ret
 exact⟨_,rfl,by simp only[zer,ye, *],(by repeat' (first|exact zi _ _|refine zd ?_ _|refine Below.alloc ?_ (by simp<;>omega) _|refine zj ?_ (by simp<;>omega) _|refine za ?_ ‹_›))⟩

set_option maxRecDepth 100000 in
theorem zdk (b o bv ov cap r0 r1 r2 x y z:Nat) (w:World) (hk:w.cell? ⟨b,o,none⟩=some (.int .i64 1))
  (hs:w.cell? ⟨b,o+3,none⟩=some (.slice (some ⟨bv,ov,none⟩) 3 cap)) (h0:w.cell? ⟨bv,ov,none⟩=some (F1 r0)) (h1:w.cell? ⟨bv,ov+1,none⟩=some (F1 r1)) (h2:w.cell? ⟨bv,ov+2,none⟩=some (F1 r2)) :
  Calls Tryz.prog 196 #[.pointer (some ⟨b,o,none⟩),V3 x y z] w (Ret .f32 (ja (cn .f32 x) (cn .f32 y) (cn .f32 z) (cn .f32 r0) (cn .f32 r1) (cn .f32 r2)) w):=by
 have hb:b<w.heap.size:=zg (a:=⟨b,o,none⟩) (by rw[hk];rfl)
 have hbv:bv<w.heap.size:=zg (a:=⟨bv,ov,none⟩) (by rw[h0];rfl)
 have hk0:zc [(⟨b,o,none⟩,.int .i64 1),(⟨b,o+3,none⟩,.slice (some ⟨bv,ov,none⟩) 3 cap),(⟨bv,ov,none⟩,F1 r0),(⟨bv,ov+1,none⟩,F1 r1),(⟨bv,ov+2,none⟩,F1 r2)] [] w:=kof (by simp only[List.forall_mem_cons,List.not_mem_nil,false_implies,implies_true,and_true];exact⟨hk,hs,h0,h1,h2⟩)
 go_enter Tryz.func196,Tryz.ntmps196
 go_wp2_with (first|(go_at_call 242;refine (yv _ _ _ _).mono ?_;rintro _ w2⟨r1,rfl,hr1,hb1⟩;have HL:=yc hb1;have HF:=z9 hb1)|(go_at_call 165;refine (yq _ _ _ _ _ _ _).mono ?_;rintro _ w2⟨r1,rfl,hr1,hb1⟩;have HL:=yc hb1;have HF:=z9 hb1)|(go_at_call 88;refine (yd _ _).mono ?_;rintro _ w2⟨r1,rfl,hr1,hb1⟩;have HL:=yc hb1;have HF:=z9 hb1)|(go_at_call 197;refine (zu _ _ _).mono ?_;rintro _ w2⟨r1,rfl,hr1,hb1⟩;have HL:=yc hb1;have HF:=z9 hb1)|(go_at_call 198;refine (zp _ _ _).mono ?_;rintro _ w2⟨r1,rfl,hr1,hb1⟩;have HL:=yc hb1;have HF:=z9 hb1)|(refine z6 rfl _ _ _ _ _ rfl _ _ _ rfl rfl rfl ?_;intro r n hr))
 have Wb:Below w.heap.size w (w.alloc (.cells #[F1 x,F1 y,F1 z] 38)):=(by repeat' (first|exact zi _ _|refine zd ?_ _|refine Below.alloc ?_ (by simp<;>omega) _|refine zj ?_ (by simp<;>omega) _|refine za ?_ ‹_›))

 have hkept:=ze (keep hk0 Wb) (show zc [(⟨w.heap.size,0,none⟩,F1 x),(⟨w.heap.size,1,none⟩,F1 y),(⟨w.heap.size,2,none⟩,F1 z)] [] (w.alloc (.cells #[F1 x,F1 y,F1 z] 38)) by
  simp only[zc,ka,kb,zb,kfa,kga];simp)
 clear hk0
 generalize (w.alloc (.cells #[F1 x,F1 y,F1 z] 38))=W1 at Wb hkept ⊢
 have hK:=hkept
 simp only[zc,ka,kb,zb,kfa,kga]at hK
 refine Qr.wp_below_all (by kernel_rfl) (by kernel_rfl) PhiS ?_
 repeat (refine Qr.walk_plain rfl fun K hK=>?_;(first|(refine zk _ _ _ _ _ rfl _ _ _ rfl rfl rfl (fun r hr=>?_))|(apply Qr.one_det;(focus (intro w' hw';have HK:=keep hkept hw';simp only[zc,ka,kb,zb,kfa,kga]at HK;go_simp;first|done|rfl)))|(apply Qr.one_call;(focus (intro w' hw';go_simp;first|done|exact⟨rfl,rfl⟩));(focus (intro w' hw';(first|(go_at_call 242;refine (yv _ _ _ _).mono ?_)|(go_at_call 165;refine (yq _ _ _ _ _ _ _).mono ?_)|(go_at_call 88;refine (yd _ _).mono ?_)|(go_at_call 197;refine (zu _ _ _).mono ?_)|(go_at_call 198;refine (zp _ _ _).mono ?_));rintro _ w2⟨r1,rfl,hr1,hb1⟩;exact⟨_,rfl,by constructor<;>assumption,za hw' ‹_›,by assumption⟩));intro v hv;cases hv));go_simp;refine hK _ ?_;clear hK K)
 refine Qr.walk_nil fun w3 hw3=>?_
 have hkept:=keep hkept hw3
 have Wb:=za Wb hw3
 clear hK
 have hK:=hkept
 simp only[zc,ka,kb,zb,kfa,kga]at hK
 go_wp2_with (first|(go_at_call 242;refine (yv _ _ _ _).mono ?_;rintro _ w2⟨r1,rfl,hr1,hb1⟩;have HL:=yc hb1;have HF:=z9 hb1)|(go_at_call 165;refine (yq _ _ _ _ _ _ _).mono ?_;rintro _ w2⟨r1,rfl,hr1,hb1⟩;have HL:=yc hb1;have HF:=z9 hb1)|(go_at_call 88;refine (yd _ _).mono ?_;rintro _ w2⟨r1,rfl,hr1,hb1⟩;have HL:=yc hb1;have HF:=z9 hb1)|(go_at_call 197;refine (zu _ _ _).mono ?_;rintro _ w2⟨r1,rfl,hr1,hb1⟩;have HL:=yc hb1;have HF:=z9 hb1)|(go_at_call 198;refine (zp _ _ _).mono ?_;rintro _ w2⟨r1,rfl,hr1,hb1⟩;have HL:=yc hb1;have HF:=z9 hb1)|(refine z6 rfl _ _ _ _ _ rfl _ _ _ rfl rfl rfl ?_;intro r n hr))
 refine Qr.wp_below_all (by kernel_rfl) (by kernel_rfl) PhiS ?_
 repeat (refine Qr.walk_plain rfl fun K hK=>?_;(first|(refine zk _ _ _ _ _ rfl _ _ _ rfl rfl rfl (fun r hr=>?_))|(apply Qr.one_det;(focus (intro w' hw';have HK:=keep hkept hw';simp only[zc,ka,kb,zb,kfa,kga]at HK;go_simp;first|done|rfl)))|(apply Qr.one_call;(focus (intro w' hw';go_simp;first|done|exact⟨rfl,rfl⟩));(focus (intro w' hw';(first|(go_at_call 242;refine (yv _ _ _ _).mono ?_)|(go_at_call 165;refine (yq _ _ _ _ _ _ _).mono ?_)|(go_at_call 88;refine (yd _ _).mono ?_)|(go_at_call 197;refine (zu _ _ _).mono ?_)|(go_at_call 198;refine (zp _ _ _).mono ?_));rintro _ w2⟨r1,rfl,hr1,hb1⟩;exact⟨_,rfl,by constructor<;>assumption,za hw' ‹_›,by assumption⟩));intro v hv;cases hv));go_simp;refine hK _ ?_;clear hK K)
 refine Qr.walk_nil fun w3 hw3=>?_
 have hkept:=keep hkept hw3
 have Wb:=za Wb hw3
 clear hK
 have hK:=hkept
 simp only[zc,ka,kb,zb,kfa,kga]at hK
 go_wp2_with (first|(go_at_call 242;refine (yv _ _ _ _).mono ?_;rintro _ w2⟨r1,rfl,hr1,hb1⟩;have HL:=yc hb1;have HF:=z9 hb1)|(go_at_call 165;refine (yq _ _ _ _ _ _ _).mono ?_;rintro _ w2⟨r1,rfl,hr1,hb1⟩;have HL:=yc hb1;have HF:=z9 hb1)|(go_at_call 88;refine (yd _ _).mono ?_;rintro _ w2⟨r1,rfl,hr1,hb1⟩;have HL:=yc hb1;have HF:=z9 hb1)|(go_at_call 197;refine (zu _ _ _).mono ?_;rintro _ w2⟨r1,rfl,hr1,hb1⟩;have HL:=yc hb1;have HF:=z9 hb1)|(go_at_call 198;refine (zp _ _ _).mono ?_;rintro _ w2⟨r1,rfl,hr1,hb1⟩;have HL:=yc hb1;have HF:=z9 hb1)|(refine z6 rfl _ _ _ _ _ rfl _ _ _ rfl rfl rfl ?_;intro r n hr))
 refine Qr.wp_below_all (by kernel_rfl) (by kernel_rfl) PhiS ?_
 repeat (refine Qr.walk_plain rfl fun K hK=>?_;(first|(refine zk _ _ _ _ _ rfl _ _ _ rfl rfl rfl (fun r hr=>?_))|(apply Qr.one_det;(focus (intro w' hw';have HK:=keep hkept hw';simp only[zc,ka,kb,zb,kfa,kga]at HK;go_simp;first|done|rfl)))|(apply Qr.one_call;(focus (intro w' hw';go_simp;first|done|exact⟨rfl,rfl⟩));(focus (intro w' hw';(first|(go_at_call 242;refine (yv _ _ _ _).mono ?_)|(go_at_call 165;refine (yq _ _ _ _ _ _ _).mono ?_)|(go_at_call 88;refine (yd _ _).mono ?_)|(go_at_call 197;refine (zu _ _ _).mono ?_)|(go_at_call 198;refine (zp _ _ _).mono ?_));rintro _ w2⟨r1,rfl,hr1,hb1⟩;exact⟨_,rfl,by constructor<;>assumption,za hw' ‹_›,by assumption⟩));intro v hv;cases hv));go_simp;refine hK _ ?_;clear hK K)
 refine Qr.walk_nil fun w3 hw3=>?_
 have hkept:=keep hkept hw3
 have Wb:=za Wb hw3
 clear hK
 have hK:=hkept
 simp only[zc,ka,kb,zb,kfa,kga]at hK
 go_wp2_with (first|(go_at_call 242;refine (yv _ _ _ _).mono ?_;rintro _ w2⟨r1,rfl,hr1,hb1⟩;have HL:=yc hb1;have HF:=z9 hb1)|(go_at_call 165;refine (yq _ _ _ _ _ _ _).mono ?_;rintro _ w2⟨r1,rfl,hr1,hb1⟩;have HL:=yc hb1;have HF:=z9 hb1)|(go_at_call 88;refine (yd _ _).mono ?_;rintro _ w2⟨r1,rfl,hr1,hb1⟩;have HL:=yc hb1;have HF:=z9 hb1)|(go_at_call 197;refine (zu _ _ _).mono ?_;rintro _ w2⟨r1,rfl,hr1,hb1⟩;have HL:=yc hb1;have HF:=z9 hb1)|(go_at_call 198;refine (zp _ _ _).mono ?_;rintro _ w2⟨r1,rfl,hr1,hb1⟩;have HL:=yc hb1;have HF:=z9 hb1)|(refine z6 rfl _ _ _ _ _ rfl _ _ _ rfl rfl rfl ?_;intro r n hr))
 go_ret
 exact⟨_,rfl,by simp only[ja,ye, *],(by repeat' (first|exact zi _ _|refine zd ?_ _|refine Below.alloc ?_ (by simp<;>omega) _|refine zj ?_ (by simp<;>omega) _|refine za ?_ ‹_›))⟩

end Go.Proofs.YtbiacfkiakddiaaGreat
