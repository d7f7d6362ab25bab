/-
 Lemmas: W1,S1,S2,S3.
-/
import Derived.Test.YtbiacfkiakddiaaGreatXaf
set_option linter.unusedVariables false
set_option linter.unusedSimpArgs false
set_option maxHeartbeats 1000000
namespace Go.Proofs.YtbiacfkiakddiaaGreat
open Go.RowKit Go.Fl
theorem km (a b c d e f:Nat) (w:World) :
  Calls Tryz.prog 176 #[.agg #[.float .f32 a,.float .f32 b,.float .f32 c],.agg #[.float .f32 d,.float .f32 e,.float .f32 f]] w
   (Ret .f32 (zbc (cn .f32 a) (cn .f32 b) (cn .f32 c) (cn .f32 d) (cn .f32 e) (cn .f32 f)) w):=by
 go_enter Tryz.func176,Tryz.ntmps176
 go_wp2_with (refine z6 rfl _ _ _ _ _ rfl _ _ _ rfl rfl rfl ?_;intro r n hr)
 go_ret
 exact⟨_,rfl,by simp only[zbc, *],(by repeat' (first|exact zi _ _|refine zd ?_ _|refine Below.alloc ?_ (by simp<;>omega) _|refine zj ?_ (by simp<;>omega) _|refine za ?_ ‹_›))⟩

theorem zlj (a:Nat) (w:World) :
  Calls Tryz.prog 278 #[.float .f64 a] w (Ret .f64 (sqr (cn .f64 a)) w):=by
 go_enter Tryz.func278,Tryz.ntmps278
 go_wp2_with (refine jz rfl 284 _ _ rfl rfl _ zu4 _ (zto _ _) ?_;rintro _ n ⟨r,rfl,hr⟩)
 go_ret
 exact⟨_,rfl,hr,(by repeat' (first|exact zi _ _|refine zd ?_ _|refine Below.alloc ?_ (by simp<;>omega) _|refine zj ?_ (by simp<;>omega) _|refine za ?_ ‹_›))⟩

theorem yb (a:Nat) (w:World) :
  Calls Tryz.prog 90 #[.float .f32 a] w (Ret .f32 (vp (cn .f32 a)) w):=by
 by_cases h:(FloatKind.f32.format.order a 0==some .lt)=true
 ·go_enter Tryz.func90,Tryz.ntmps90
  go_wp2_with fail
  go_ret
  exact⟨_,rfl,by simp only[vp,ltk,ua,h,if_true,xo],(by repeat' (first|exact zi _ _|refine zd ?_ _|refine Below.alloc ?_ (by simp<;>omega) _|refine zj ?_ (by simp<;>omega) _|refine za ?_ ‹_›))⟩
 ·rw[Bool.not_eq_true]at h
  go_enter Tryz.func90,Tryz.ntmps90
  go_wp2_with fail
  go_ret
  exact⟨_,rfl,by simp only[vp,ltk,ua,h];rfl,(by repeat' (first|exact zi _ _|refine zd ?_ _|refine Below.alloc ?_ (by simp<;>omega) _|refine zj ?_ (by simp<;>omega) _|refine za ?_ ‹_›))⟩

theorem yw (a b:Nat) (w:World) :
  Calls Tryz.prog 221 #[.float .f32 a,.float .f32 b] w (Ret .f32 (yo (cn .f32 a) (cn .f32 b)) w):=by
 by_cases h:(FloatKind.f32.format.order b a==some .lt)=true
 ·go_enter Tryz.func221,Tryz.ntmps221
  go_wp2_with fail
  go_ret
  exact⟨_,rfl,by simp only[yo,ltk,um,h,if_true],(by repeat' (first|exact zi _ _|refine zd ?_ _|refine Below.alloc ?_ (by simp<;>omega) _|refine zj ?_ (by simp<;>omega) _|refine za ?_ ‹_›))⟩
 ·rw[Bool.not_eq_true]at h
  go_enter Tryz.func221,Tryz.ntmps221
  go_wp2_with fail
  go_ret
  exact⟨_,rfl,by simp only[yo,ltk,um,h];rfl,(by repeat' (first|exact zi _ _|refine zd ?_ _|refine Below.alloc ?_ (by simp<;>omega) _|refine zj ?_ (by simp<;>omega) _|refine za ?_ ‹_›))⟩

theorem ym (a b:Nat) (w:World) :
  Calls Tryz.prog 222 #[.float .f32 a,.float .f32 b] w (Ret .f32 (z7 (cn .f32 a) (cn .f32 b)) w):=by
 by_cases h:(FloatKind.f32.format.order b a==some .gt)=true
 ·go_enter Tryz.func222,Tryz.ntmps222
  go_wp2_with fail
  go_ret
  exact⟨_,rfl,by simp only[z7,gtk,um,h,if_true],(by repeat' (first|exact zi _ _|refine zd ?_ _|refine Below.alloc ?_ (by simp<;>omega) _|refine zj ?_ (by simp<;>omega) _|refine za ?_ ‹_›))⟩
 ·rw[Bool.not_eq_true]at h
  go_enter Tryz.func222,Tryz.ntmps222
  go_wp2_with fail
  go_ret
  exact⟨_,rfl,by simp only[z7,gtk,um,h];rfl,(by repeat' (first|exact zi _ _|refine zd ?_ _|refine Below.alloc ?_ (by simp<;>omega) _|refine zj ?_ (by simp<;>omega) _|refine za ?_ ‹_›))⟩

theorem yj (a b c d e f:Nat) (w:World) :
  Calls Tryz.prog 178 #[.agg #[.float .f32 a,.float .f32 b,.float .f32 c],.agg #[.float .f32 d,.float .f32 e,.float .f32 f]] w
   (ut (B .sub (cn .f32 a) (cn .f32 d)) (B .sub (cn .f32 b) (cn .f32 e)) (B .sub (cn .f32 c) (cn .f32 f)) w):=by
 go_enter Tryz.func178,Tryz.ntmps178
 go_wp2_with (refine z6 rfl _ _ _ _ _ rfl _ _ _ rfl rfl rfl ?_;intro r n hr)
 exact bodyPost_ret (v:=.agg #[.float .f32 _,.float .f32 _,.float .f32 _]) (by simp[results,Tryz.results178,go_sem];exact⟨rfl,rfl,rfl⟩) rfl ⟨_,_,_,rfl,by assumption,by assumption,by assumption,(by repeat' (first|exact zi _ _|refine zd ?_ _|refine Below.alloc ?_ (by simp<;>omega) _|refine zj ?_ (by simp<;>omega) _|refine za ?_ ‹_›))⟩

theorem q6 (a b:Nat) (w:World) :
  Calls Tryz.prog 219 #[.float .f32 a,.float .f32 b] w (Ret .f32 (zbv (cn .f32 a) (cn .f32 b)) w):=by
 go_enter Tryz.func219,Tryz.ntmps219
 go_wp2_with (first
  | (go_at_call 222;refine (ym _ _ _).mono ?_;rintro _ w1⟨r1,rfl,hr1,hb1⟩)
  | (go_at_call 221;refine (yw _ _ _).mono ?_;rintro _ w2⟨r2,rfl,hr2,hb2⟩)
  | (refine z6 rfl _ _ _ _ _ rfl _ _ _ rfl rfl rfl ?_;intro r n hr))
 go_ret
 rw[ye]at hr1
 exact⟨_,rfl,by simp only[zbv, *],(by repeat' (first|exact zi _ _|refine zd ?_ _|refine Below.alloc ?_ (by simp<;>omega) _|refine zj ?_ (by simp<;>omega) _|refine za ?_ ‹_›))⟩

theorem zuv (a:Nat) (w:World) :
  Calls Tryz.prog 269 #[.float .f32 a] w (Ret .f32 (zf2 (cn .f32 a)) w):=by
 go_enter Tryz.func269,Tryz.ntmps269
 go_wp2_with (first
  | (go_at_call 278;refine (zlj _ _).mono ?_;rintro _ w1⟨r1,rfl,hr1,hb1⟩)
  | (refine zbb rfl _ _ _ rfl _ rfl ?_ ?_ u8 ?_;exact jx;exact Tryz.underlying89;intro r n hr)
  | (refine vq rfl _ _ _ rfl _ rfl ?_ ?_ ?_ ?_;exact xb;exact Tryz.underlying25;(simp only[*];exact zit _);intro r2 n hr2))
 go_ret
 exact⟨_,rfl,by simp only[zf2, *],(by repeat' (first|exact zi _ _|refine zd ?_ _|refine Below.alloc ?_ (by simp<;>omega) _|refine zj ?_ (by simp<;>omega) _|refine za ?_ ‹_›))⟩

theorem ky (a b c:Nat) (w:World) :
  Calls Tryz.prog 250 #[.agg #[.float .f32 a,.float .f32 b,.float .f32 c]] w (Ret .f32 (jo (cn .f32 a) (cn .f32 b) (cn .f32 c)) w):=by
 go_enter Tryz.func250,Tryz.ntmps250
 go_wp2_with (first
  | (go_at_call 176;refine (km _ _ _ _ _ _ _).mono ?_;rintro _ w1⟨r1,rfl,hr1,hb1⟩)
  | (go_at_call 269;refine (zuv _ _).mono ?_;rintro _ w2⟨r2,rfl,hr2,hb2⟩))
 go_ret
 exact⟨_,rfl,by simp only[jo, *],(by repeat' (first|exact zi _ _|refine zd ?_ _|refine Below.alloc ?_ (by simp<;>omega) _|refine zj ?_ (by simp<;>omega) _|refine za ?_ ‹_›))⟩

theorem jj (a b:Nat) (w:World) :
  Calls Tryz.prog 224 #[.float .f32 a,.float .f32 b] w (Ret .f32 (jk (cn .f32 a) (cn .f32 b)) w):=by
 by_cases h:(FloatKind.f32.format.order a 0==some .gt)=true
 ·go_enter Tryz.func224,Tryz.ntmps224
  go_wp2_with (refine z6 rfl _ _ _ _ _ rfl _ _ _ rfl rfl rfl ?_;intro r n hr)
  go_ret
  exact⟨_,rfl,by simp only[jk,gtk,ua,h,if_true];simp only[*];rfl,(by repeat' (first|exact zi _ _|refine zd ?_ _|refine Below.alloc ?_ (by simp<;>omega) _|refine zj ?_ (by simp<;>omega) _|refine za ?_ ‹_›))⟩
 ·rw[Bool.not_eq_true]at h
  go_enter Tryz.func224,Tryz.ntmps224
  go_wp2_with (refine z6 rfl _ _ _ _ _ rfl _ _ _ rfl rfl rfl ?_;intro r n hr)
  go_ret
  exact⟨_,rfl,by simp only[jk,gtk,ua,h];rfl,(by repeat' (first|exact zi _ _|refine zd ?_ _|refine Below.alloc ?_ (by simp<;>omega) _|refine zj ?_ (by simp<;>omega) _|refine za ?_ ‹_›))⟩

theorem zfy (a:Nat) (w:World) :
  Calls Tryz.prog 261 #[.float .f32 a] w (Ret .f32 (j2 (cn .f32 a)) w):=by
 go_enter Tryz.func261,Tryz.ntmps261
 go_wp2_with (first
  | (refine jz rfl 255 _ _ rfl rfl _ zfh _ (zbf _ _ _ _) ?_;rintro _ n ⟨r1,rfl,hr1⟩)
  | (refine zbb rfl _ _ _ rfl _ rfl ?_ ?_ u8 ?_;exact jx;exact Tryz.underlying89;intro r n hr)
  | (refine vq rfl _ _ _ rfl _ rfl ?_ ?_ ?_ ?_;exact xb;exact Tryz.underlying25;(simp only[*];exact zdb _);intro r2 n hr2))
 go_ret
 exact⟨_,rfl,by simp only[j2, *],(by repeat' (first|exact zi _ _|refine zd ?_ _|refine Below.alloc ?_ (by simp<;>omega) _|refine zj ?_ (by simp<;>omega) _|refine za ?_ ‹_›))⟩

theorem yi (a b:Nat) (w:World) :
  Calls Tryz.prog 262 #[.float .f32 a,.float .f32 b] w (Ret .f32 (k5 (cn .f32 a) (cn .f32 b)) w):=by
 go_enter Tryz.func262,Tryz.ntmps262
 go_wp2_with (first
  | (go_at_call 261;refine (zfy _ _).mono ?_;rintro _ w1⟨r1,rfl,hr1,hb1⟩)
  | (refine z6 rfl _ _ _ _ _ rfl _ _ _ rfl rfl rfl ?_;intro r n hr))
 go_ret
 exact⟨_,rfl,by simp only[k5, *];rfl,(by repeat' (first|exact zi _ _|refine zd ?_ _|refine Below.alloc ?_ (by simp<;>omega) _|refine zj ?_ (by simp<;>omega) _|refine za ?_ ‹_›))⟩

theorem ya (a b c:Nat) (w:World) :
  Calls Tryz.prog 133 #[.agg #[.float .f32 a,.float .f32 b,.float .f32 c]] w
   (fun e w'=>e=.returned (.agg #[.float .f32 a,.float .f32 b,.float .f32 c])∧Below w.heap.size w w'):=by
 go_enter Tryz.func133,Tryz.ntmps133
 go_wp2_with fail
 exact bodyPost_ret (v:=.agg #[.float .f32 _,.float .f32 _,.float .f32 _]) (by simp[results,Tryz.results133,go_sem]) rfl ⟨rfl,(by repeat' (first|exact zi _ _|refine zd ?_ _|refine Below.alloc ?_ (by simp<;>omega) _|refine zj ?_ (by simp<;>omega) _|refine za ?_ ‹_›))⟩

theorem zx (a b c:Nat) (w:World) :
  Calls Tryz.prog 227 #[.agg #[.float .f32 a,.float .f32 b,.float .f32 c]] w
   (fun e w'=>e=.returned (.agg #[.float .f32 a,.float .f32 b,.float .f32 c])∧Below w.heap.size w w'):=by
 go_enter Tryz.func227,Tryz.ntmps227
 go_wp2_with fail
 exact bodyPost_ret (v:=.agg #[.float .f32 _,.float .f32 _,.float .f32 _]) (by simp[results,Tryz.results227,go_sem]) rfl ⟨rfl,(by repeat' (first|exact zi _ _|refine zd ?_ _|refine Below.alloc ?_ (by simp<;>omega) _|refine zj ?_ (by simp<;>omega) _|refine za ?_ ‹_›))⟩

theorem zes (a b c:Int) (w:World) :
  Calls Tryz.prog 74 #[.int .i64 a,.int .i64 b,.int .i64 c] w (fun e w'=>e=.returned (.bool (decide (b≤a) && decide (a≤c)))∧w=w'):=by
 by_cases h1:b≤a
 ·by_cases h2:a≤c
  all_goals
   go_enter Tryz.func74,Tryz.ntmps74
   go_wp2_with fail
   go_ret
   exact⟨by simp[h1,h2],rfl⟩
 ·go_enter Tryz.func74,Tryz.ntmps74
  go_wp2_with fail
  go_ret
  exact⟨by rw[decide_eq_false (by omega:¬ b≤a)];rfl,rfl⟩

theorem zjn (a:Nat) (w:World) :
  Calls Tryz.prog 150 #[.float .f32 a] w (fun e w'=>e=.returned (.bool (eqk .f32 (B .sub (cn .f32 a) (cn .f32 a)) 0))∧Below w.heap.size w w'):=by
 go_enter Tryz.func150,Tryz.ntmps150
 go_wp2_with (refine z6 rfl _ _ _ _ _ rfl _ _ _ rfl rfl rfl ?_;intro r n hr)
 go_ret
 exact⟨by simp only[eqk,← hr,ua];rfl,(by repeat' (first|exact zi _ _|refine zd ?_ _|refine Below.alloc ?_ (by simp<;>omega) _|refine zj ?_ (by simp<;>omega) _|refine za ?_ ‹_›))⟩
def vj (x:Nat):Nat:=if lek .f32 x 0 then B .sub 0 x else x

theorem yd (a:Nat) (w:World) :
  Calls Tryz.prog 88 #[.float .f32 a] w (Ret .f32 (vj (cn .f32 a)) w):=by
 by_cases h:(FloatKind.f32.format.order a 0==some .lt || FloatKind.f32.format.order a 0==some .eq)=true
 ·go_enter Tryz.func88,Tryz.ntmps88
  go_wp2_with (refine z6 rfl _ _ _ _ _ rfl _ _ _ rfl rfl rfl ?_;intro r n hr)
  go_ret
  exact⟨_,rfl,by simp only[vj,lek,ua,h,if_true];rw[ye]at hr;exact hr,(by repeat' (first|exact zi _ _|refine zd ?_ _|refine Below.alloc ?_ (by simp<;>omega) _|refine zj ?_ (by simp<;>omega) _|refine za ?_ ‹_›))⟩
 ·rw[Bool.not_eq_true]at h
  go_enter Tryz.func88,Tryz.ntmps88
  go_wp2_with fail
  go_ret
  exact⟨_,rfl,by simp only[vj,lek,ua,h];rfl,(by repeat' (first|exact zi _ _|refine zd ?_ _|refine Below.alloc ?_ (by simp<;>omega) _|refine zj ?_ (by simp<;>omega) _|refine za ?_ ‹_›))⟩

theorem yq (a b c d e f:Nat) (w:World) :
  Calls Tryz.prog 165 #[.agg #[.float .f32 a,.float .f32 b,.float .f32 c],.agg #[.float .f32 d,.float .f32 e,.float .f32 f]] w
   (Ret .f32 (zbc (cn .f32 a) (cn .f32 b) (cn .f32 c) (cn .f32 d) (cn .f32 e) (cn .f32 f)) w):=by
 go_enter Tryz.func165,Tryz.ntmps165
 go_wp2_with (refine z6 rfl _ _ _ _ _ rfl _ _ _ rfl rfl rfl ?_;intro r n hr)
 go_ret
 exact⟨_,rfl,by simp only[zbc, *],(by repeat' (first|exact zi _ _|refine zd ?_ _|refine Below.alloc ?_ (by simp<;>omega) _|refine zj ?_ (by simp<;>omega) _|refine za ?_ ‹_›))⟩

theorem zu (a b:Nat) (w:World) :
  Calls Tryz.prog 197 #[.float .f32 a,.float .f32 b] w (Ret .f32 (yo (cn .f32 a) (cn .f32 b)) w):=by
 by_cases h:(FloatKind.f32.format.order b a==some .lt)=true
 ·go_enter Tryz.func197,Tryz.ntmps197
  go_wp2_with fail
  go_ret
  exact⟨_,rfl,by simp only[yo,ltk,um,h,if_true],(by repeat' (first|exact zi _ _|refine zd ?_ _|refine Below.alloc ?_ (by simp<;>omega) _|refine zj ?_ (by simp<;>omega) _|refine za ?_ ‹_›))⟩
 ·rw[Bool.not_eq_true]at h
  go_enter Tryz.func197,Tryz.ntmps197
  go_wp2_with fail
  go_ret
  exact⟨_,rfl,by simp only[yo,ltk,um,h];rfl,(by repeat' (first|exact zi _ _|refine zd ?_ _|refine Below.alloc ?_ (by simp<;>omega) _|refine zj ?_ (by simp<;>omega) _|refine za ?_ ‹_›))⟩

theorem zp (a b:Nat) (w:World) :
  Calls Tryz.prog 198 #[.float .f32 a,.float .f32 b] w (Ret .f32 (z7 (cn .f32 a) (cn .f32 b)) w):=by
 by_cases h:(FloatKind.f32.format.order b a==some .gt)=true
 ·go_enter Tryz.func198,Tryz.ntmps198
  go_wp2_with fail
  go_ret
  exact⟨_,rfl,by simp only[z7,gtk,um,h,if_true],(by repeat' (first|exact zi _ _|refine zd ?_ _|refine Below.alloc ?_ (by simp<;>omega) _|refine zj ?_ (by simp<;>omega) _|refine za ?_ ‹_›))⟩
 ·rw[Bool.not_eq_true]at h
  go_enter Tryz.func198,Tryz.ntmps198
  go_wp2_with fail
  go_ret
  exact⟨_,rfl,by simp only[z7,gtk,um,h];rfl,(by repeat' (first|exact zi _ _|refine zd ?_ _|refine Below.alloc ?_ (by simp<;>omega) _|refine zj ?_ (by simp<;>omega) _|refine za ?_ ‹_›))⟩

theorem uo (a b c d e f:Nat) (w:World) :
  Calls Tryz.prog 167 #[.agg #[.float .f32 a,.float .f32 b,.float .f32 c],.agg #[.float .f32 d,.float .f32 e,.float .f32 f]] w
   (ut (B .sub (cn .f32 a) (cn .f32 d)) (B .sub (cn .f32 b) (cn .f32 e)) (B .sub (cn .f32 c) (cn .f32 f)) w):=by
 go_enter Tryz.func167,Tryz.ntmps167
 go_wp2_with (refine z6 rfl _ _ _ _ _ rfl _ _ _ rfl rfl rfl ?_;intro r n hr)
 exact bodyPost_ret (v:=.agg #[.float .f32 _,.float .f32 _,.float .f32 _]) (by simp[results,Tryz.results167,go_sem];exact⟨rfl,rfl,rfl⟩) rfl ⟨_,_,_,rfl,by assumption,by assumption,by assumption,(by repeat' (first|exact zi _ _|refine zd ?_ _|refine Below.alloc ?_ (by simp<;>omega) _|refine zj ?_ (by simp<;>omega) _|refine za ?_ ‹_›))⟩

theorem zel (a:Nat) (w:World) :
  Calls Tryz.prog 149 #[.float .f32 a] w (fun e w'=>e=.returned (.bool (eqk .f32 (B .sub (cn .f32 a) (cn .f32 a)) 0))∧Below w.heap.size w w'):=by
 go_enter Tryz.func149,Tryz.ntmps149
 go_wp2_with (refine z6 rfl _ _ _ _ _ rfl _ _ _ rfl rfl rfl ?_;intro r n hr)
 go_ret
 exact⟨by simp only[eqk,← hr,ua];rfl,(by repeat' (first|exact zi _ _|refine zd ?_ _|refine Below.alloc ?_ (by simp<;>omega) _|refine zj ?_ (by simp<;>omega) _|refine za ?_ ‹_›))⟩
theorem zeh (a:Nat) (w:World) (hf:zco (cn .f64 a)) :
  Calls Tryz.prog 253 #[.float .f64 a] w (Ret .f32 (nar (cn .f64 a)) w):=by
 go_enter Tryz.func253,Tryz.ntmps253
 go_wp2_with (refine vq rfl _ _ _ rfl _ rfl ?_ ?_ ?_ ?_;exact xb;exact Tryz.underlying25;exact hf;intro r2 n hr2)
 go_ret
 exact⟨_,rfl,hr2,(by repeat' (first|exact zi _ _|refine zd ?_ _|refine Below.alloc ?_ (by simp<;>omega) _|refine zj ?_ (by simp<;>omega) _|refine za ?_ ‹_›))⟩

theorem zn3 (a:Nat) (w:World) :
  Calls Tryz.prog 266 #[.float .f32 a] w (Ret .f32 (zf2 (cn .f32 a)) w):=by
 go_enter Tryz.func266,Tryz.ntmps266
 go_wp2_with (first
  | (go_at_call 278;refine (zlj _ _).mono ?_;rintro _ w1⟨r1,rfl,hr1,hb1⟩)
  | (go_at_call 253;refine (zeh _ _ (by simp only[*];exact zit _)).mono ?_;rintro _ w2⟨r2,rfl,hr2,hb2⟩)
  | (refine zbb rfl _ _ _ rfl _ rfl ?_ ?_ u8 ?_;exact jx;exact Tryz.underlying89;intro r n hr))
 go_ret
 exact⟨_,rfl,by simp only[zf2, *],(by repeat' (first|exact zi _ _|refine zd ?_ _|refine Below.alloc ?_ (by simp<;>omega) _|refine zj ?_ (by simp<;>omega) _|refine za ?_ ‹_›))⟩

theorem yv (a b c:Nat) (w:World) :
  Calls Tryz.prog 242 #[.agg #[.float .f32 a,.float .f32 b,.float .f32 c]] w (Ret .f32 (jo (cn .f32 a) (cn .f32 b) (cn .f32 c)) w):=by
 go_enter Tryz.func242,Tryz.ntmps242
 go_wp2_with (first
  | (go_at_call 165;refine (yq _ _ _ _ _ _ _).mono ?_;rintro _ w1⟨r1,rfl,hr1,hb1⟩)
  | (go_at_call 266;refine (zn3 _ _).mono ?_;rintro _ w2⟨r2,rfl,hr2,hb2⟩))
 go_ret
 exact⟨_,rfl,by simp only[jo, *],(by repeat' (first|exact zi _ _|refine zd ?_ _|refine Below.alloc ?_ (by simp<;>omega) _|refine zj ?_ (by simp<;>omega) _|refine za ?_ ‹_›))⟩

def y9 (a b c:Nat) (i:Int):Nat:=if i=0 then a else if i=1 then b else c
def xx (a:Nat) (i:Int) (v:Nat):Nat:=if i=0 then v else a
def xt (b:Nat) (i:Int) (v:Nat):Nat:=if i=0 then b else if i=1 then v else b
def xy (c:Nat) (i:Int) (v:Nat):Nat:=if i=0 then c else if i=1 then c else v

theorem xu (a b c:Nat) (i:Int) (w:World) :
  Calls Tryz.prog 142 #[V3 a b c,.int .i64 i] w (fun e w'=>e=.returned (F1 (y9 a b c i))∧Below w.heap.size w w'):=by
 by_cases h0:i=0
 ·subst h0
  go_enter Tryz.func142,Tryz.ntmps142
  go_wp2_with fail
  go_ret
  exact⟨rfl,(by repeat' (first|exact zi _ _|refine zd ?_ _|refine Below.alloc ?_ (by simp<;>omega) _|refine zj ?_ (by simp<;>omega) _|refine za ?_ ‹_›))⟩
 ·by_cases h1:i=1
  ·subst h1
   go_enter Tryz.func142,Tryz.ntmps142
   go_wp2_with fail
   go_ret
   exact⟨rfl,(by repeat' (first|exact zi _ _|refine zd ?_ _|refine Below.alloc ?_ (by simp<;>omega) _|refine zj ?_ (by simp<;>omega) _|refine za ?_ ‹_›))⟩
  ·have:y9 a b c i=c:=by simp[y9,h0,h1]
   rw[this]
   go_enter Tryz.func142,Tryz.ntmps142
   go_wp2_with fail
   go_ret
   exact⟨rfl,(by repeat' (first|exact zi _ _|refine zd ?_ _|refine Below.alloc ?_ (by simp<;>omega) _|refine zj ?_ (by simp<;>omega) _|refine za ?_ ‹_›))⟩

theorem vm (a b c v:Nat) (i:Int) (w:World) :
  Calls Tryz.prog 143 #[V3 a b c,.int .i64 i,F1 v] w (fun e w'=>e=.returned (V3 (xx a i v) (xt b i v) (xy c i v))∧Below w.heap.size w w'):=by
 by_cases h0:i=0
 ·subst h0
  go_enter Tryz.func143,Tryz.ntmps143
  go_wp2_with fail
  exact bodyPost_ret (v:=.agg #[F1 _,F1 _,F1 _]) (by simp[results,Tryz.results143,go_sem];first|done|exact⟨rfl,rfl,rfl⟩) rfl ⟨rfl,(by repeat' (first|exact zi _ _|refine zd ?_ _|refine Below.alloc ?_ (by simp<;>omega) _|refine zj ?_ (by simp<;>omega) _|refine za ?_ ‹_›))⟩
 ·by_cases h1:i=1
  ·subst h1
   go_enter Tryz.func143,Tryz.ntmps143
   go_wp2_with fail
   exact bodyPost_ret (v:=.agg #[F1 _,F1 _,F1 _]) (by simp[results,Tryz.results143,go_sem];first|done|exact⟨rfl,rfl,rfl⟩) rfl ⟨rfl,(by repeat' (first|exact zi _ _|refine zd ?_ _|refine Below.alloc ?_ (by simp<;>omega) _|refine zj ?_ (by simp<;>omega) _|refine za ?_ ‹_›))⟩
  ·have e1:xx a i v=a:=by simp[xx,h0]
   have e2:xt b i v=b:=by simp[xt,h0,h1]
   have e3:xy c i v=v:=by simp[xy,h0,h1]
   rw[e1,e2,e3]
   clear e1 e2 e3
   go_enter Tryz.func143,Tryz.ntmps143
   go_wp2_with fail
   exact bodyPost_ret (v:=.agg #[F1 _,F1 _,F1 _]) (by simp[results,Tryz.results143,go_sem];first|done|exact⟨rfl,rfl,rfl⟩) rfl ⟨rfl,(by repeat' (first|exact zi _ _|refine zd ?_ _|refine Below.alloc ?_ (by simp<;>omega) _|refine zj ?_ (by simp<;>omega) _|refine za ?_ ‹_›))⟩

def kq (c s:Nat):Nat:=vj (B .sub c (B .mul (B .mul 1073741824 s) (j2 (B .quo c (B .mul 1073741824 s)))))

theorem v8 (a b:Nat) (w:World) :
  Calls Tryz.prog 276 #[F1 a,F1 b] w (Ret .f32 (kq (cn .f32 a) (cn .f32 b)) w):=by
 go_enter Tryz.func276,Tryz.ntmps276
 go_wp2_with (first
  | (refine jz rfl 255 _ _ rfl rfl _ zfh _ (zbf _ _ _ _) ?_;rintro _ n ⟨r1,rfl,hr1⟩)
  | (go_at_call 88;refine (yd _ _).mono ?_;rintro _ w1⟨r3,rfl,hr3,hb1⟩)
  | (refine z6 rfl _ _ _ _ _ rfl _ _ _ rfl rfl rfl ?_;intro r n hr)
  | (refine zbb rfl _ _ _ rfl _ rfl ?_ ?_ u8 ?_;exact jx;exact Tryz.underlying89;intro r n hr)
  | (refine vq rfl _ _ _ rfl _ rfl ?_ ?_ ?_ ?_;exact xb;exact Tryz.underlying25;(simp only[*];exact zdb _);intro r2 n hr2))
 go_ret
 exact⟨_,rfl,by simp only[kq,j2,zyv, *],(by repeat' (first|exact zi _ _|refine zd ?_ _|refine Below.alloc ?_ (by simp<;>omega) _|refine zj ?_ (by simp<;>omega) _|refine za ?_ ‹_›))⟩
inductive PhiS:FuncId→Array Value→Value→Prop
 | long (a b c r:Nat) (h:cn .f32 r=jo (cn .f32 a) (cn .f32 b) (cn .f32 c)):PhiS 242 #[V3 a b c] (F1 r)
 | inner (a b c d e f r:Nat) (h:cn .f32 r=zbc (cn .f32 a) (cn .f32 b) (cn .f32 c) (cn .f32 d) (cn .f32 e) (cn .f32 f)):PhiS 165 #[V3 a b c,V3 d e f] (F1 r)
 | size (a r:Nat) (h:cn .f32 r=vj (cn .f32 a)):PhiS 88 #[F1 a] (F1 r)
 | lesser (a b r:Nat) (h:cn .f32 r=yo (cn .f32 a) (cn .f32 b)):PhiS 197 #[F1 a,F1 b] (F1 r)
 | greater (a b r:Nat) (h:cn .f32 r=z7 (cn .f32 a) (cn .f32 b)):PhiS 198 #[F1 a,F1 b] (F1 r)
 | less (a b c d e f x y z:Nat) (h1:cn .f32 x=B .sub (cn .f32 a) (cn .f32 d)) (h2:cn .f32 y=B .sub (cn .f32 b) (cn .f32 e)) (h3:cn .f32 z=B .sub (cn .f32 c) (cn .f32 f)):PhiS 167 #[V3 a b c,V3 d e f] (V3 x y z)

def zc5 (a b k:Nat):Nat :=
 if gtk .f32 (B .sub k (vj (B .sub a b))) 0 then
  B .sub (yo a b) (B .quo (B .mul (B .sub k (vj (B .sub a b))) (B .sub k (vj (B .sub a b)))) (B .mul 1082130432 k))
 else yo a b

set_option maxRecDepth 100000 in
theorem znh (b o  x y:Nat) (w:World) (hk:w.cell? ⟨b,o,none⟩=some (.int .i64 5)) :
  Calls Tryz.prog 231 #[.pointer (some ⟨b,o,none⟩),F1 x,F1 y] w (Ret .f32 (yo (cn .f32 x) (cn .f32 y)) w):=by
 have hb:b<w.heap.size:=zg (a:=⟨b,o,none⟩) (by rw[hk];rfl)
 go_enter Tryz.func231,Tryz.ntmps231
 go_wp2_with (first|(go_at_call 88;refine (yd _ _).mono ?_;rintro _ w2⟨r1,rfl,hr1,hb1⟩;have HL:=yc hb1;have HF:=z9 hb1)|(go_at_call 197;refine (zu _ _ _).mono ?_;rintro _ w2⟨r1,rfl,hr1,hb1⟩;have HL:=yc hb1;have HF:=z9 hb1)|(go_at_call 198;refine (zp _ _ _).mono ?_;rintro _ w2⟨r1,rfl,hr1,hb1⟩;have HL:=yc hb1;have HF:=z9 hb1)|(refine z6 rfl _ _ _ _ _ rfl _ _ _ rfl rfl rfl ?_;intro r n hr))
 go_ret
 exact⟨_,rfl,by simp only[ye,xo, *],(by repeat' (first|exact zi _ _|refine zd ?_ _|refine Below.alloc ?_ (by simp<;>omega) _|refine zj ?_ (by simp<;>omega) _|refine za ?_ ‹_›))⟩

set_option maxRecDepth 100000 in
theorem zst (b o  x y:Nat) (w:World) (hk:w.cell? ⟨b,o,none⟩=some (.int .i64 6)) :
  Calls Tryz.prog 231 #[.pointer (some ⟨b,o,none⟩),F1 x,F1 y] w (Ret .f32 (z7 (cn .f32 x) (cn .f32 y)) w):=by
 have hb:b<w.heap.size:=zg (a:=⟨b,o,none⟩) (by rw[hk];rfl)
 go_enter Tryz.func231,Tryz.ntmps231
 go_wp2_with (first|(go_at_call 88;refine (yd _ _).mono ?_;rintro _ w2⟨r1,rfl,hr1,hb1⟩;have HL:=yc hb1;have HF:=z9 hb1)|(go_at_call 197;refine (zu _ _ _).mono ?_;rintro _ w2⟨r1,rfl,hr1,hb1⟩;have HL:=yc hb1;have HF:=z9 hb1)|(go_at_call 198;refine (zp _ _ _).mono ?_;rintro _ w2⟨r1,rfl,hr1,hb1⟩;have HL:=yc hb1;have HF:=z9 hb1)|(refine z6 rfl _ _ _ _ _ rfl _ _ _ rfl rfl rfl ?_;intro r n hr))
 go_ret
 exact⟨_,rfl,by simp only[ye,xo, *],(by repeat' (first|exact zi _ _|refine zd ?_ _|refine Below.alloc ?_ (by simp<;>omega) _|refine zj ?_ (by simp<;>omega) _|refine za ?_ ‹_›))⟩

set_option maxRecDepth 100000 in
theorem zoo (b o  x y:Nat) (w:World) (hk:w.cell? ⟨b,o,none⟩=some (.int .i64 7)) :
  Calls Tryz.prog 231 #[.pointer (some ⟨b,o,none⟩),F1 x,F1 y] w (Ret .f32 (z7 (cn .f32 x) (un .f32 (cn .f32 y))) w):=by
 have hb:b<w.heap.size:=zg (a:=⟨b,o,none⟩) (by rw[hk];rfl)
 go_enter Tryz.func231,Tryz.ntmps231
 go_wp2_with (first|(go_at_call 88;refine (yd _ _).mono ?_;rintro _ w2⟨r1,rfl,hr1,hb1⟩;have HL:=yc hb1;have HF:=z9 hb1)|(go_at_call 197;refine (zu _ _ _).mono ?_;rintro _ w2⟨r1,rfl,hr1,hb1⟩;have HL:=yc hb1;have HF:=z9 hb1)|(go_at_call 198;refine (zp _ _ _).mono ?_;rintro _ w2⟨r1,rfl,hr1,hb1⟩;have HL:=yc hb1;have HF:=z9 hb1)|(refine z6 rfl _ _ _ _ _ rfl _ _ _ rfl rfl rfl ?_;intro r n hr))
 go_ret
 exact⟨_,rfl,by simp only[ye,xo, *],(by repeat' (first|exact zi _ _|refine zd ?_ _|refine Below.alloc ?_ (by simp<;>omega) _|refine zj ?_ (by simp<;>omega) _|refine za ?_ ‹_›))⟩

set_option maxRecDepth 100000 in
theorem zlb (b o bv ov cap r0 x y:Nat) (w:World) (hk:w.cell? ⟨b,o,none⟩=some (.int .i64 10))
  (hs:w.cell? ⟨b,o+3,none⟩=some (.slice (some ⟨bv,ov,none⟩) 1 cap)) (h0:w.cell? ⟨bv,ov,none⟩=some (F1 r0)) :
  Calls Tryz.prog 231 #[.pointer (some ⟨b,o,none⟩),F1 x,F1 y] w (Ret .f32 (B .mul (cn .f32 x) (cn .f32 r0)) w):=by
 have hb:b<w.heap.size:=zg (a:=⟨b,o,none⟩) (by rw[hk];rfl)
 have hbv:bv<w.heap.size:=zg (a:=⟨bv,ov,none⟩) (by rw[h0];rfl)
 go_enter Tryz.func231,Tryz.ntmps231
 go_wp2_with (first|(go_at_call 88;refine (yd _ _).mono ?_;rintro _ w2⟨r1,rfl,hr1,hb1⟩;have HL:=yc hb1;have HF:=z9 hb1)|(go_at_call 197;refine (zu _ _ _).mono ?_;rintro _ w2⟨r1,rfl,hr1,hb1⟩;have HL:=yc hb1;have HF:=z9 hb1)|(go_at_call 198;refine (zp _ _ _).mono ?_;rintro _ w2⟨r1,rfl,hr1,hb1⟩;have HL:=yc hb1;have HF:=z9 hb1)|(refine z6 rfl _ _ _ _ _ rfl _ _ _ rfl rfl rfl ?_;intro r n hr))
 go_ret
 exact⟨_,rfl,by simp only[ye,xo, *],(by repeat' (first|exact zi _ _|refine zd ?_ _|refine Below.alloc ?_ (by simp<;>omega) _|refine zj ?_ (by simp<;>omega) _|refine za ?_ ‹_›))⟩

set_option maxRecDepth 100000 in
theorem zk2 (b o bv ov cap r0 x y:Nat) (w:World) (hk:w.cell? ⟨b,o,none⟩=some (.int .i64 15))
  (hs:w.cell? ⟨b,o+3,none⟩=some (.slice (some ⟨bv,ov,none⟩) 1 cap)) (h0:w.cell? ⟨bv,ov,none⟩=some (F1 r0)) :
  Calls Tryz.prog 231 #[.pointer (some ⟨b,o,none⟩),F1 x,F1 y] w (Ret .f32 (B .sub (cn .f32 x) (cn .f32 r0)) w):=by
 have hb:b<w.heap.size:=zg (a:=⟨b,o,none⟩) (by rw[hk];rfl)
 have hbv:bv<w.heap.size:=zg (a:=⟨bv,ov,none⟩) (by rw[h0];rfl)
 go_enter Tryz.func231,Tryz.ntmps231
 go_wp2_with (first|(go_at_call 88;refine (yd _ _).mono ?_;rintro _ w2⟨r1,rfl,hr1,hb1⟩;have HL:=yc hb1;have HF:=z9 hb1)|(go_at_call 197;refine (zu _ _ _).mono ?_;rintro _ w2⟨r1,rfl,hr1,hb1⟩;have HL:=yc hb1;have HF:=z9 hb1)|(go_at_call 198;refine (zp _ _ _).mono ?_;rintro _ w2⟨r1,rfl,hr1,hb1⟩;have HL:=yc hb1;have HF:=z9 hb1)|(refine z6 rfl _ _ _ _ _ rfl _ _ _ rfl rfl rfl ?_;intro r n hr))
 go_ret
 exact⟨_,rfl,by simp only[ye,xo, *],(by repeat' (first|exact zi _ _|refine zd ?_ _|refine Below.alloc ?_ (by simp<;>omega) _|refine zj ?_ (by simp<;>omega) _|refine za ?_ ‹_›))⟩

set_option maxRecDepth 100000 in
theorem zlr (b o bv ov cap r0 x y:Nat) (w:World) (hk:w.cell? ⟨b,o,none⟩=some (.int .i64 16))
  (hs:w.cell? ⟨b,o+3,none⟩=some (.slice (some ⟨bv,ov,none⟩) 1 cap)) (h0:w.cell? ⟨bv,ov,none⟩=some (F1 r0)) :
  Calls Tryz.prog 231 #[.pointer (some ⟨b,o,none⟩),F1 x,F1 y] w (Ret .f32 (B .sub (vj (cn .f32 x)) (cn .f32 r0)) w):=by
 have hb:b<w.heap.size:=zg (a:=⟨b,o,none⟩) (by rw[hk];rfl)
 have hbv:bv<w.heap.size:=zg (a:=⟨bv,ov,none⟩) (by rw[h0];rfl)
 go_enter Tryz.func231,Tryz.ntmps231
 go_wp2_with fail
 refine Qr.wp_below_all (by kernel_rfl) (by kernel_rfl) PhiS ?_
 repeat (refine Qr.walk_plain rfl fun K hK=>?_;(first|(refine zk _ _ _ _ _ rfl _ _ _ rfl rfl rfl (fun r hr=>?_))|(apply Qr.one_det;(focus (intro w' hw';have HL:=yc hw';go_simp;first|done|rfl)))|(apply Qr.one_call;(focus (intro w' hw';go_simp;first|done|exact⟨rfl,rfl⟩));(focus (intro w' hw';(first|(go_at_call 88;refine (yd _ _).mono ?_)|(go_at_call 197;refine (zu _ _ _).mono ?_)|(go_at_call 198;refine (zp _ _ _).mono ?_));rintro _ w2⟨r1,rfl,hr1,hb1⟩;exact⟨_,rfl,by constructor<;>assumption,za hw' ‹_›,by assumption⟩));intro v hv;cases hv));go_simp;refine hK _ ?_;clear hK K)
 refine Qr.walk_nil fun w3 hw3=>?_
 go_wp2_with fail
 go_ret
 exact⟨_,rfl,by simp only[*],(by repeat' (first|exact zi _ _|refine zd ?_ _|refine Below.alloc ?_ (by simp<;>omega) _|refine zj ?_ (by simp<;>omega) _|refine za ?_ ‹_›))⟩

set_option maxRecDepth 100000 in
theorem zo3 (b o  x y:Nat) (w:World) (hk:w.cell? ⟨b,o,none⟩=some (.int .i64 9)) :
  Calls Tryz.prog 231 #[.pointer (some ⟨b,o,none⟩),F1 x,F1 y] w (Ret .f32 (cn .f32 x) w):=by
 have hb:b<w.heap.size:=zg (a:=⟨b,o,none⟩) (by rw[hk];rfl)
 go_enter Tryz.func231,Tryz.ntmps231
 go_wp2_with fail
 go_ret
 exact⟨_,rfl,rfl,(by repeat' (first|exact zi _ _|refine zd ?_ _|refine Below.alloc ?_ (by simp<;>omega) _|refine zj ?_ (by simp<;>omega) _|refine za ?_ ‹_›))⟩

set_option maxRecDepth 100000 in
theorem zh3 (b o  x y:Nat) (w:World) (hk:w.cell? ⟨b,o,none⟩=some (.int .i64 11)) :
  Calls Tryz.prog 231 #[.pointer (some ⟨b,o,none⟩),F1 x,F1 y] w (Ret .f32 (cn .f32 x) w):=by
 have hb:b<w.heap.size:=zg (a:=⟨b,o,none⟩) (by rw[hk];rfl)
 go_enter Tryz.func231,Tryz.ntmps231
 go_wp2_with fail
 go_ret
 exact⟨_,rfl,rfl,(by repeat' (first|exact zi _ _|refine zd ?_ _|refine Below.alloc ?_ (by simp<;>omega) _|refine zj ?_ (by simp<;>omega) _|refine za ?_ ‹_›))⟩

set_option maxRecDepth 100000 in
theorem zpr (b o  x y:Nat) (w:World) (hk:w.cell? ⟨b,o,none⟩=some (.int .i64 12)) :
  Calls Tryz.prog 231 #[.pointer (some ⟨b,o,none⟩),F1 x,F1 y] w (Ret .f32 (cn .f32 x) w):=by
 have hb:b<w.heap.size:=zg (a:=⟨b,o,none⟩) (by rw[hk];rfl)
 go_enter Tryz.func231,Tryz.ntmps231
 go_wp2_with fail
 go_ret
 exact⟨_,rfl,rfl,(by repeat' (first|exact zi _ _|refine zd ?_ _|refine Below.alloc ?_ (by simp<;>omega) _|refine zj ?_ (by simp<;>omega) _|refine za ?_ ‹_›))⟩

set_option maxRecDepth 100000 in
theorem zke (b o  x y:Nat) (w:World) (hk:w.cell? ⟨b,o,none⟩=some (.int .i64 13)) :
  Calls Tryz.prog 231 #[.pointer (some ⟨b,o,none⟩),F1 x,F1 y] w (Ret .f32 (cn .f32 x) w):=by
 have hb:b<w.heap.size:=zg (a:=⟨b,o,none⟩) (by rw[hk];rfl)
 go_enter Tryz.func231,Tryz.ntmps231
 go_wp2_with fail
 go_ret
 exact⟨_,rfl,rfl,(by repeat' (first|exact zi _ _|refine zd ?_ _|refine Below.alloc ?_ (by simp<;>omega) _|refine zj ?_ (by simp<;>omega) _|refine za ?_ ‹_›))⟩

set_option maxRecDepth 100000 in
theorem zo8 (b o  x y:Nat) (w:World) (hk:w.cell? ⟨b,o,none⟩=some (.int .i64 14)) :
  Calls Tryz.prog 231 #[.pointer (some ⟨b,o,none⟩),F1 x,F1 y] w (Ret .f32 (cn .f32 x) w):=by
 have hb:b<w.heap.size:=zg (a:=⟨b,o,none⟩) (by rw[hk];rfl)
 go_enter Tryz.func231,Tryz.ntmps231
 go_wp2_with fail
 go_ret
 exact⟨_,rfl,rfl,(by repeat' (first|exact zi _ _|refine zd ?_ _|refine Below.alloc ?_ (by simp<;>omega) _|refine zj ?_ (by simp<;>omega) _|refine za ?_ ‹_›))⟩

set_option maxRecDepth 100000 in
theorem zkc (b o bv ov cap r0 x y:Nat) (w:World) (hk:w.cell? ⟨b,o,none⟩=some (.int .i64 8))
  (hs:w.cell? ⟨b,o+3,none⟩=some (.slice (some ⟨bv,ov,none⟩) 1 cap)) (h0:w.cell? ⟨bv,ov,none⟩=some (F1 r0)) :
  Calls Tryz.prog 231 #[.pointer (some ⟨b,o,none⟩),F1 x,F1 y] w (Ret .f32 (zc5 (cn .f32 x) (cn .f32 y) (cn .f32 r0)) w):=by
 have hb:b<w.heap.size:=zg (a:=⟨b,o,none⟩) (by rw[hk];rfl)
 have hbv:bv<w.heap.size:=zg (a:=⟨bv,ov,none⟩) (by rw[h0];rfl)
 go_enter Tryz.func231,Tryz.ntmps231
 go_wp2_with (first|(go_at_call 88;refine (yd _ _).mono ?_;rintro _ w2⟨r1,rfl,hr1,hb1⟩;have HL:=yc hb1;have HF:=z9 hb1)|(go_at_call 197;refine (zu _ _ _).mono ?_;rintro _ w2⟨r1,rfl,hr1,hb1⟩;have HL:=yc hb1;have HF:=z9 hb1)|(go_at_call 198;refine (zp _ _ _).mono ?_;rintro _ w2⟨r1,rfl,hr1,hb1⟩;have HL:=yc hb1;have HF:=z9 hb1)|(refine z6 rfl _ _ _ _ _ rfl _ _ _ rfl rfl rfl ?_;intro r n hr))
 ·have hg:=za9 ‹(FloatKind.f32.format.order _ 0==some .gt)=true›
  go_ret
  simp only[*]at hg
  exact⟨_,rfl,by simp only[zc5,B,hg,if_true,zyk, *],(by repeat' (first|exact zi _ _|refine zd ?_ _|refine Below.alloc ?_ (by simp<;>omega) _|refine zj ?_ (by simp<;>omega) _|refine za ?_ ‹_›))⟩
 ·have hg:=za9 ‹(FloatKind.f32.format.order _ 0==some .gt)=false›
  go_ret
  simp only[*]at hg
  exact⟨_,rfl,by simp only[zc5,B,hg];simp only[*];rfl,(by repeat' (first|exact zi _ _|refine zd ?_ _|refine Below.alloc ?_ (by simp<;>omega) _|refine zj ?_ (by simp<;>omega) _|refine za ?_ ‹_›))⟩
end Go.Proofs.YtbiacfkiakddiaaGreat
