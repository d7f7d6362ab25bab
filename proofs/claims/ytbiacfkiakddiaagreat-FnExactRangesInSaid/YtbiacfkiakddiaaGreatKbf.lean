/-
 Lemmas: V7.
-/
import Derived.Test.YtbiacfkiakddiaaGreatKbb
set_option linter.unusedVariables false
set_option linter.unusedSimpArgs false
namespace Go.Proofs.YtbiacfkiakddiaaGreat
open Go.RowKit Go.Fl
def bothR (g:Nat → Nat) (r:Nat × Nat):Nat × Nat:=(g r.1,g r.2)

inductive PhiB (id:FuncId) (g:Nat → Nat) (ra:Addr):FuncId → Array Value → Value → Prop
 | call (x r:Nat) (h:cn .f32 r = g (cn .f32 x)):PhiB id g ra id #[F1 x,.pointer (some ra)] (F1 r)

set_option maxRecDepth 100000 in
set_option maxHeartbeats 1000000 in
theorem both_div (g:Nat → Nat) (ra:Addr) (a b:Nat) (w:World)
  (hcall:∀ x w',Below w.heap.size w w' → Calls Tryz.prog 210 #[F1 x,.pointer (some ra)] w' (Ret .f32 (g (cn .f32 x)) w')) :
  Calls Tryz.prog 209 #[RgV a b,.func (.func 210) #[] #[.pointer (some ra)]] w (RetR (bothR g (cn .f32 a,cn .f32 b)) w):=by
 go_enter Tryz.func209,Tryz.ntmps209
 go_upto_region 1 with fail
 have W1b:Below w.heap.size w ((w.alloc (.cells #[.float .f32 a,.float .f32 b] 118)).alloc (.cells #[.float .f32 0,.float .f32 0] 118)):=(by repeat' (first | exact Below.refl _ _ | exact Nat.le_refl _ | refine below_drewN ?_ _ | refine Below.alloc ?_ (by first | (simp;done) | (simp;omega)) _ | refine Below.setCell ?_ (by first | (simp;done) | (simp;omega)) _ | refine below_step ?_ (by assumption)))
 
 have hkept:Kept [(⟨w.heap.size,0,none⟩,.float .f32 a),(⟨w.heap.size,1,none⟩,.float .f32 b),(⟨w.heap.size + 1,0,none⟩,.float .f32 0),(⟨w.heap.size + 1,1,none⟩,.float .f32 0)] [⟨w.heap.size + 1,0,none⟩,⟨w.heap.size + 1,1,none⟩] ((w.alloc (.cells #[.float .f32 a,.float .f32 b] 118)).alloc (.cells #[.float .f32 0,.float .f32 0] 118)):=by
  simp only [Kept,ka,kb,kc,kd,ke,and_true,true_and];(first | (go_simp;done) | (simp [World.cell?,World.frozen?,World.alloc,Array.getElem?_push];done))
 generalize (w.alloc (.cells #[.float .f32 a,.float .f32 b] 118)).alloc (.cells #[.float .f32 0,.float .f32 0] 118) = W1 at *
 have hK:=hkept;simp only [Kept,ka,kb,kc,kd,ke,and_true,true_and] at hK
 refine Qr.wp_below 9 (by kernel_rfl) (by kernel_rfl) (PhiB 210 g ra) ?_
 repeat (first | (refine Qr.walk_plain rfl fun K hK => ?_;apply Qr.one_det;(focus (intro w' hw';have HK:=keep hkept hw';simp only [Kept,ka,kb,kc,kd,ke,and_true,true_and] at HK;go_simp;first | done | rfl));go_simp;refine hK _ ?_;clear hK K) | (refine Qr.walk_plain rfl fun K hK => ?_;apply Qr.one_call;(focus (intro w' hw';go_simp;first | done | exact ⟨rfl,rfl⟩));(focus (intro w' hw';refine (hcall _ _ (below_step W1b hw')).mono ?_;rintro _ w2 ⟨r1,rfl,hr1,hb1⟩;exact ⟨_,rfl,.call _ _ hr1,below_step hw' (by assumption),by assumption⟩));intro v hv;cases hv;go_simp;refine hK _ ?_;clear hK K))
 rename_i r1 hr1 r2 hr2
 refine Qr.walk_nil fun w6 hw6 => ?_
 have hkept:=keep hkept hw6
 have W6b:=below_step W1b hw6
 clear hK
 have hK:=hkept
 simp only [Kept,ka,kb,kc,kd,ke,and_true,true_and] at hK
 go_wp2_with fail
 exact bodyPost_ret (v:=RgV r1 r2) (by simp [results,Tryz.results209,go_sem,hK,World.cell?_setCell_other,World.cell?_setCell_same'];first | done | exact ⟨rfl,rfl⟩) rfl ⟨_,_,rfl,pr hr1 hr2,bel2 W6b (by omega) ..⟩

set_option maxRecDepth 100000 in
set_option maxHeartbeats 1000000 in
theorem both_short (g:Nat → Nat) (ra:Addr) (a b:Nat) (w:World)
  (hcall:∀ x w',Below w.heap.size w w' → Calls Tryz.prog 218 #[F1 x,.pointer (some ra)] w' (Ret .f32 (g (cn .f32 x)) w')) :
  Calls Tryz.prog 209 #[RgV a b,.func (.func 218) #[] #[.pointer (some ra)]] w (RetR (bothR g (cn .f32 a,cn .f32 b)) w):=by
 go_enter Tryz.func209,Tryz.ntmps209
 go_upto_region 1 with fail
 have W1b:Below w.heap.size w ((w.alloc (.cells #[.float .f32 a,.float .f32 b] 118)).alloc (.cells #[.float .f32 0,.float .f32 0] 118)):=(by repeat' (first | exact Below.refl _ _ | exact Nat.le_refl _ | refine below_drewN ?_ _ | refine Below.alloc ?_ (by first | (simp;done) | (simp;omega)) _ | refine Below.setCell ?_ (by first | (simp;done) | (simp;omega)) _ | refine below_step ?_ (by assumption)))
 
 have hkept:Kept [(⟨w.heap.size,0,none⟩,.float .f32 a),(⟨w.heap.size,1,none⟩,.float .f32 b),(⟨w.heap.size + 1,0,none⟩,.float .f32 0),(⟨w.heap.size + 1,1,none⟩,.float .f32 0)] [⟨w.heap.size + 1,0,none⟩,⟨w.heap.size + 1,1,none⟩] ((w.alloc (.cells #[.float .f32 a,.float .f32 b] 118)).alloc (.cells #[.float .f32 0,.float .f32 0] 118)):=by
  simp only [Kept,ka,kb,kc,kd,ke,and_true,true_and];(first | (go_simp;done) | (simp [World.cell?,World.frozen?,World.alloc,Array.getElem?_push];done))
 generalize (w.alloc (.cells #[.float .f32 a,.float .f32 b] 118)).alloc (.cells #[.float .f32 0,.float .f32 0] 118) = W1 at *
 have hK:=hkept;simp only [Kept,ka,kb,kc,kd,ke,and_true,true_and] at hK
 refine Qr.wp_below 9 (by kernel_rfl) (by kernel_rfl) (PhiB 218 g ra) ?_
 repeat (first | (refine Qr.walk_plain rfl fun K hK => ?_;apply Qr.one_det;(focus (intro w' hw';have HK:=keep hkept hw';simp only [Kept,ka,kb,kc,kd,ke,and_true,true_and] at HK;go_simp;first | done | rfl));go_simp;refine hK _ ?_;clear hK K) | (refine Qr.walk_plain rfl fun K hK => ?_;apply Qr.one_call;(focus (intro w' hw';go_simp;first | done | exact ⟨rfl,rfl⟩));(focus (intro w' hw';refine (hcall _ _ (below_step W1b hw')).mono ?_;rintro _ w2 ⟨r1,rfl,hr1,hb1⟩;exact ⟨_,rfl,.call _ _ hr1,below_step hw' (by assumption),by assumption⟩));intro v hv;cases hv;go_simp;refine hK _ ?_;clear hK K))
 rename_i r1 hr1 r2 hr2
 refine Qr.walk_nil fun w6 hw6 => ?_
 have hkept:=keep hkept hw6
 have W6b:=below_step W1b hw6
 clear hK
 have hK:=hkept
 simp only [Kept,ka,kb,kc,kd,ke,and_true,true_and] at hK
 go_wp2_with fail
 exact bodyPost_ret (v:=RgV r1 r2) (by simp [results,Tryz.results209,go_sem,hK,World.cell?_setCell_other,World.cell?_setCell_same'];first | done | exact ⟨rfl,rfl⟩) rfl ⟨_,_,rfl,pr hr1 hr2,bel2 W6b (by omega) ..⟩

set_option maxRecDepth 100000 in
set_option maxHeartbeats 1000000 in
theorem both_bulge (g:Nat → Nat) (ra:Addr) (a b:Nat) (w:World)
  (hcall:∀ x w',Below w.heap.size w w' → Calls Tryz.prog 223 #[F1 x,.pointer (some ra)] w' (Ret .f32 (g (cn .f32 x)) w')) :
  Calls Tryz.prog 209 #[RgV a b,.func (.func 223) #[] #[.pointer (some ra)]] w (RetR (bothR g (cn .f32 a,cn .f32 b)) w):=by
 go_enter Tryz.func209,Tryz.ntmps209
 go_upto_region 1 with fail
 have W1b:Below w.heap.size w ((w.alloc (.cells #[.float .f32 a,.float .f32 b] 118)).alloc (.cells #[.float .f32 0,.float .f32 0] 118)):=(by repeat' (first | exact Below.refl _ _ | exact Nat.le_refl _ | refine below_drewN ?_ _ | refine Below.alloc ?_ (by first | (simp;done) | (simp;omega)) _ | refine Below.setCell ?_ (by first | (simp;done) | (simp;omega)) _ | refine below_step ?_ (by assumption)))
 
 have hkept:Kept [(⟨w.heap.size,0,none⟩,.float .f32 a),(⟨w.heap.size,1,none⟩,.float .f32 b),(⟨w.heap.size + 1,0,none⟩,.float .f32 0),(⟨w.heap.size + 1,1,none⟩,.float .f32 0)] [⟨w.heap.size + 1,0,none⟩,⟨w.heap.size + 1,1,none⟩] ((w.alloc (.cells #[.float .f32 a,.float .f32 b] 118)).alloc (.cells #[.float .f32 0,.float .f32 0] 118)):=by
  simp only [Kept,ka,kb,kc,kd,ke,and_true,true_and];(first | (go_simp;done) | (simp [World.cell?,World.frozen?,World.alloc,Array.getElem?_push];done))
 generalize (w.alloc (.cells #[.float .f32 a,.float .f32 b] 118)).alloc (.cells #[.float .f32 0,.float .f32 0] 118) = W1 at *
 have hK:=hkept;simp only [Kept,ka,kb,kc,kd,ke,and_true,true_and] at hK
 refine Qr.wp_below 9 (by kernel_rfl) (by kernel_rfl) (PhiB 223 g ra) ?_
 repeat (first | (refine Qr.walk_plain rfl fun K hK => ?_;apply Qr.one_det;(focus (intro w' hw';have HK:=keep hkept hw';simp only [Kept,ka,kb,kc,kd,ke,and_true,true_and] at HK;go_simp;first | done | rfl));go_simp;refine hK _ ?_;clear hK K) | (refine Qr.walk_plain rfl fun K hK => ?_;apply Qr.one_call;(focus (intro w' hw';go_simp;first | done | exact ⟨rfl,rfl⟩));(focus (intro w' hw';refine (hcall _ _ (below_step W1b hw')).mono ?_;rintro _ w2 ⟨r1,rfl,hr1,hb1⟩;exact ⟨_,rfl,.call _ _ hr1,below_step hw' (by assumption),by assumption⟩));intro v hv;cases hv;go_simp;refine hK _ ?_;clear hK K))
 rename_i r1 hr1 r2 hr2
 refine Qr.walk_nil fun w6 hw6 => ?_
 have hkept:=keep hkept hw6
 have W6b:=below_step W1b hw6
 clear hK
 have hK:=hkept
 simp only [Kept,ka,kb,kc,kd,ke,and_true,true_and] at hK
 go_wp2_with fail
 exact bodyPost_ret (v:=RgV r1 r2) (by simp [results,Tryz.results209,go_sem,hK,World.cell?_setCell_other,World.cell?_setCell_same'];first | done | exact ⟨rfl,rfl⟩) rfl ⟨_,_,rfl,pr hr1 hr2,bel2 W6b (by omega) ..⟩

set_option maxHeartbeats 1000000 in
theorem cl_div (x by_ rb ro:Nat) (w:World) (h:w.cell? ⟨rb,ro,none⟩ = some (F1 by_)) :
  Calls Tryz.prog 210 #[F1 x,.pointer (some ⟨rb,ro,none⟩)] w (Ret .f32 (B .quo (cn .f32 x) (cn .f32 by_)) w):=by
 go_enter Tryz.func210,Tryz.ntmps210
 go_wp2_with (refine wp_bin rfl _ _ _ _ _ rfl _ _ _ rfl rfl rfl ?_;intro r n hr)
 go_ret
 exact ⟨_,rfl,hr,(by repeat' (first | exact Below.refl _ _ | exact Nat.le_refl _ | refine below_drewN ?_ _ | refine Below.alloc ?_ (by first | (simp;done) | (simp;omega)) _ | refine Below.setCell ?_ (by first | (simp;done) | (simp;omega)) _ | refine below_step ?_ (by assumption)))⟩

set_option maxHeartbeats 1000000 in
theorem cl_short (x h nb no l cap rb ro:Nat) (w:World) (h1:w.cell? ⟨rb,ro,none⟩ = some (.slice (some ⟨nb,no,none⟩) (l + 1) cap)) (h2:w.cell? ⟨nb,no,none⟩ = some (F1 h)) :
  Calls Tryz.prog 218 #[F1 x,.pointer (some ⟨rb,ro,none⟩)] w (Ret .f32 (shortF (cn .f32 x) (cn .f32 h)) w):=by
 go_enter Tryz.func218,Tryz.ntmps218
 have h3:(0:Int) < (l:Int) + 1:=by omega
 go_wp2_with (go_at_call 219;refine (short_any _ _ _).mono ?_;rintro _ w2 ⟨r1,rfl,hr1,hb1⟩)
 go_ret
 exact ⟨_,rfl,hr1,(by repeat' (first | exact Below.refl _ _ | exact Nat.le_refl _ | refine below_drewN ?_ _ | refine Below.alloc ?_ (by first | (simp;done) | (simp;omega)) _ | refine Below.setCell ?_ (by first | (simp;done) | (simp;omega)) _ | refine below_step ?_ (by assumption)))⟩

set_option maxHeartbeats 1000000 in
theorem cl_bulge (x k rb ro:Nat) (w:World) (h:w.cell? ⟨rb,ro,none⟩ = some (F1 k)) :
  Calls Tryz.prog 223 #[F1 x,.pointer (some ⟨rb,ro,none⟩)] w (Ret .f32 (bulgeF (cn .f32 x) (cn .f32 k)) w):=by
 go_enter Tryz.func223,Tryz.ntmps223
 go_wp2_with (go_at_call 224;refine (bulge_any _ _ _).mono ?_;rintro _ w2 ⟨r1,rfl,hr1,hb1⟩)
 go_ret
 exact ⟨_,rfl,hr1,(by repeat' (first | exact Below.refl _ _ | exact Nat.le_refl _ | refine below_drewN ?_ _ | refine Below.alloc ?_ (by first | (simp;done) | (simp;omega)) _ | refine Below.setCell ?_ (by first | (simp;done) | (simp;omega)) _ | refine below_step ?_ (by assumption)))⟩
end Go.Proofs.YtbiacfkiakddiaaGreat
