/-
 Lemmas: Y6,Y7,Y8.
-/
import Derived.Test.YtbiacfkiakddiaaGreatObo
set_option linter.unusedVariables false
set_option linter.unusedSimpArgs false
namespace Go.Proofs.YtbiacfkiakddiaaGreat
open Go.RowKit Go.Fl
inductive PhiFs:FuncId → Array Value → Value → Prop
 | long (a b c r:Nat) (h:cn .f32 r = longF (cn .f32 a) (cn .f32 b) (cn .f32 c)):PhiFs 242 #[V3 a b c] (F1 r)
 | greater (a b r:Nat) (h:cn .f32 r = greaterF (cn .f32 a) (cn .f32 b)):PhiFs 198 #[F1 a,F1 b] (F1 r)

set_option maxRecDepth 100000 in
set_option maxHeartbeats 4000000 in
theorem s_factor_any (ns:List PN) (hok:OkAll ns) (hl:1 ≤ ns.length ∧ ns.length ≤ 16) (sb so nb no cap:Nat) (w:World) (hsh:ShapeIn ns sb so nb no cap w) :
  Calls Tryz.prog 277 #[.pointer (some ⟨sb,so,none⟩)] w (Ret .f32 ((facs ns ns.length).getD (ns.length - 1) 0) w):=by
 have hlist:=hsh.list
 have hsb:sb < w.heap.size:=some_lt (a:=⟨sb,so,none⟩) (by rw [hlist];rfl)
 obtain ⟨i0,hi,hz0,hz1,hz2⟩:=info_parts float_info
 have hw2:w.heap.size ≤ w.heap.size:=Nat.le_refl _
 go_enter Tryz.func277,Tryz.ntmps277
 go_wp2_with fail
 go_loopw [3,4] (fun v i wr => ∃ (m:Nat) (xs:List Nat),m ≤ ns.length ∧ i = .int .i64 (m:Int) ∧ wr.ownsRow w.heap.size 25 1 v m (fl xs) ∧ xs.map (cn .f32) = facs ns m ∧ Below w.heap.size w wr) (fun _ i _ => ns.length - (intOf i).toNat)
 case atStart =>
  exact ⟨0,[],by omega,rfl,World.ownsRow_lit w #[] 0 (Nat.le_refl _) (by unfold maxLen;omega) rfl,rfl,(Below.refl _ _).alloc (Nat.le_refl _) _⟩
 case round =>
  obtain ⟨m,xs,hm,rfl,hown,hxs,Wb⟩:=hrel
  by_cases hlt:m < ns.length
  ·have hlt':(m:Int) < (ns.length:Int):=by omega
   have h0:(0:Int) ≤ (m:Int):=by omega
   have hn:=(hsh.node m hlt).keep Wb
   have hSr:=(hsh.keep Wb).list
   obtain ⟨hokn,hca,hcb⟩:=hok m hlt
   have hall:facs ns (m + 1) = facs ns m ++ [facV ns[m] (facs ns m)]:=by rw [facs,List.getElem?_eq_getElem hlt]
   generalize ns[m] = n at *
   obtain ⟨bp,bv,ov,cp,hnum,hnp,hnc⟩:=hn.nums
   have hkind:=hn.kind
   have hA:=hn.a
   have hB:=hn.b
   have hlen:xs.length = m:=by have:=hown.1;simpa using this
   have hHall:=Lib.hid hall
   have hHxs:=Lib.hid hxs
   clear hall hxs hsh hok hlist
   have hleaf:∀ (w:World),Calls Tryz.prog 119 #[.int .i64 n.kind] w (fun e w' => e = .returned (.bool (inI n.kind 0 4)) ∧ w = w'):=fun w => s_leaf_any _ w
   have htwo:∀ (w:World),Calls Tryz.prog 120 #[.int .i64 n.kind] w (fun e w' => e = .returned (.bool (inI n.kind 5 8)) ∧ w = w'):=fun w => s_two_any _ w
   obtain ⟨hki1,hki2⟩:=kids_in hokn.kind
   have hkept:Kept [(⟨nb,no + m * 4,none⟩,.int .i64 n.kind),(⟨nb,no + m * 4 + 1,none⟩,.int .i64 n.a),(⟨nb,no + m * 4 + 2,none⟩,.int .i64 n.b),(⟨nb,no + m * 4 + 3,none⟩,.slice bp n.nums.length cp)] [] wr:=by
    simp only [Kept,ka,kb,kc,kd,ke,kfa,kga]
    exact ⟨hkind,hA,hB,hnum⟩
   have hnc4:=hnc
   have hown4:=hown
   have W4b:=Wb
   have hFV:Hid (facs ns (m + 1) = facs ns m ++ [facV n (facs ns m)]):=hHall
   have hs4:=W4b.size
   clear hkind hA hB hnum hnc hn hHall hsb hi hz0 hz1 hz2
   have hokk:=hokn.kind
   have hoknn:=hokn.nums
   by_cases hk4:n.kind = 4
   ·obtain ⟨a,b,c,d,e4⟩:=len4 (l:=n.nums) (by rw [hoknn,hk4];rfl)
    have hFV4:Hid (facV n (facs ns m) = longF (cn .f32 a) (cn .f32 b) (cn .f32 c)):=by unfold Hid facV;rw [hk4,e4];rfl
    have hbp:=hnp (by rw [e4];simp)
    subst hbp
    have q0:=hnc4 0 (by rw [e4];simp)
    have q1:=hnc4 1 (by rw [e4];simp)
    have q2:=hnc4 2 (by rw [e4];simp)
    simp only [e4,List.getElem_cons_zero,List.getElem_cons_succ] at q0 q1 q2
    rw [hk4,e4] at hkept
    rw [Nat.add_zero] at q0
    have hkept:=kept_app hkept (show Kept [(⟨bv,ov,none⟩,F1 a),(⟨bv,ov + 1,none⟩,F1 b),(⟨bv,ov + 2,none⟩,F1 c)] [] wr by simp only [Kept,ka,kb,kc,kd,ke,kfa,kga];exact ⟨q0,q1,q2⟩)
    clear q0 q1 q2 hnc4 hnp hca hcb hokn e4 hokk hoknn
    have hK:=hkept;simp only [Kept,ka,kb,kc,kd,ke,kfa,kga] at hK
    go_upto_region 8 with fail
    clear hK
    refine Qr.wp_below_all (by kernel_rfl) (by kernel_rfl) PhiFs ?_
    repeat (first | (refine Qr.walk_plain rfl fun K hK => ?_;apply Qr.one_det;(focus (intro w' hw';have HK:=keep hkept hw';simp only [Kept,ka,kb,kc,kd,ke,kfa,kga] at HK;go_simp;first | done | rfl));go_simp;refine hK _ ?_;clear hK K) | (refine Qr.walk_plain rfl fun K hK => ?_;apply Qr.one_call;(focus (intro w' hw';go_simp;first | done | exact ⟨rfl,rfl⟩));(focus (intro w' hw'; go_at_call 242;refine (s_long_any _ _ _ _).mono ?_;rintro _ w2 ⟨r1,rfl,hr1,hb1⟩ ;exact ⟨_,rfl,by constructor <;> assumption,below_step hw' (by assumption),by assumption⟩));intro v hv;cases hv;go_simp;refine hK _ ?_;clear hK K))
    rename_i r1 hr1
    have hFVk:=hFV4
    refine Qr.walk_nil fun w6 hw6 => ?_
    have hown6:=owns_below hown4 hw6
    have W6b:=below_step W4b hw6
    have hs6:=W6b.size
    go_wp2_with (at_builtin;refine wp_appF w.heap.size rfl (.tmp 121) (.tmp 123) rfl _ m xs rfl (hown6.alloc _) w6.heap.size r1 rfl (by simp) (by omega) (by simp;omega) ?_;intro v5 w5 hown5 hg5)
    exact ⟨⟨m + 1,xs ++ [r1],by omega,by simp,hown5,by rw [List.map_append,hHxs.out,hFV.out,hFVk.out];simp only [List.map_cons,List.map_nil,hr1],grown_below (W6b.alloc hs6 _) (hown6.alloc _) hg5 hw2⟩,by simp [intOf];omega⟩
   have hkd:=kids_cases n.kind
   by_cases hc0:(ruleF n.kind).2.1 = 0
   ·have hk11:n.kind ≠ 11:=by intro e;rw [e] at hc0;revert hc0;decide
    have hFVk:Hid (facV n (facs ns m) = cn .f32 1065353216):=by unfold Hid;rw [facV_def hk4 hk11,hc0];rfl
    have hlf:inI n.kind 0 4 = true:=by rw [hki1,hc0];rfl
    have htw:inI n.kind 5 8 = false:=by rw [hki2,hc0];rfl
    have hK:=hkept;simp only [Kept,ka,kb,kc,kd,ke,kfa,kga] at hK
    clear hnp hca hcb hokn hokk hoknn hnc4 hkept hkd hki1 hki2 hc0
    obtain ⟨r1,hr1,hr1e⟩:∃ r1,cn .f32 r1 = cn .f32 1065353216 ∧ r1 = 1065353216:=⟨_,rfl,rfl⟩
    have hw6:=Below.refl wr.heap.size wr
    have hr1e:=Lib.hid hr1e
    obtain ⟨w6,hw6e⟩:∃ w6,w6 = wr:=⟨_,rfl⟩
    have hown6:=hown4
    go_wp2_with (first | (go_at_call 119;refine (hleaf _).mono ?_;rintro _ w9 ⟨rfl,rfl⟩;rw [hlf]) | (go_at_call 120;refine (htwo _).mono ?_;rintro _ w9 ⟨rfl,rfl⟩;rw [htw]) | (at_builtin;refine wp_appF w.heap.size rfl (.tmp 121) (.tmp 123) rfl _ m xs rfl (hown6.alloc _) wr.heap.size 1065353216 rfl (by simp) (by omega) (by simp;omega) ?_;intro v5 w5 hown5 hg5))
    exact ⟨⟨m + 1,xs ++ [1065353216],by omega,by simp,hown5,by rw [List.map_append,hHxs.out,hFV.out,hFVk.out];simp only [List.map_cons,List.map_nil],grown_below (W4b.alloc hs4 _) (hown6.alloc _) hg5 hw2⟩,by simp [intOf];omega⟩
   have haa:=hca hc0
   obtain ⟨ca,hcaI⟩:=Int.eq_ofNat_of_zero_le haa.1
   have hcal:ca < m:=by omega
   have hcaL:(ca:Int) < (m:Int):=by omega
   obtain ⟨g6,cap6,rfl,hg6,hg6s⟩:=hown4.form (by omega)
   have hcA:=hown4.cellAt ca (by omega)
   rw [show (fl xs)[ca]? = some (F1 xs[ca]) by simp [fl]] at hcA
   have hHa:Hid (n.a.toNat = ca):=by unfold Hid;rw [hcaI];rfl
   have hgetA:Hid ((facs ns m).getD ca 0 = cn .f32 xs[ca]):=by unfold Hid;rw [← hHxs.out,List.getD_eq_getElem?_getD,List.getElem?_map,List.getElem?_eq_getElem (show ca < xs.length by omega)];rfl
   have hxa:xs[ca] = xs[ca]:=rfl
   generalize xs[ca] = va at hcA hgetA
   rw [hcaI] at hkept
   have hkept:=kept_app hkept (show Kept [(⟨g6,ca,none⟩,F1 va)] [] wr by simp only [Kept,ka,kb,kc,kd,ke,kfa,kga];exact hcA)
   clear hxa hcA haa hcaI
   by_cases hk11:n.kind = 11
   ·obtain ⟨a,b,c,e4⟩:=len3 (l:=n.nums) (by rw [hoknn,hk11];rfl)
    have hFVk:Hid (facV n (facs ns m) = B .mul (cn .f32 va) (greaterF (greaterF (B .quo (cn .f32 1065353216) (cn .f32 a)) (B .quo (cn .f32 1065353216) (cn .f32 b))) (B .quo (cn .f32 1065353216) (cn .f32 c)))):=by unfold Hid facV;rw [hk11,e4,← hgetA.out,← hHa.out];rfl
    have hbp:=hnp (by rw [e4];simp)
    subst hbp
    have q0:=hnc4 0 (by rw [e4];simp)
    have q1:=hnc4 1 (by rw [e4];simp)
    have q2:=hnc4 2 (by rw [e4];simp)
    simp only [e4,List.getElem_cons_zero,List.getElem_cons_succ] at q0 q1 q2
    rw [hk11,e4] at hkept
    rw [Nat.add_zero] at q0
    have hkept:=kept_app hkept (show Kept [(⟨bv,ov,none⟩,F1 a),(⟨bv,ov + 1,none⟩,F1 b),(⟨bv,ov + 2,none⟩,F1 c)] [] wr by simp only [Kept,ka,kb,kc,kd,ke,kfa,kga];exact ⟨q0,q1,q2⟩)
    clear q0 q1 q2 hnc4 hnp hca hcb hokn e4 hokk hoknn hkd hc0 hk4
    rw [hk11] at htwo
    have htw:inI 11 5 8 = false:=rfl
    clear hki1 hki2
    have hK:=hkept;simp only [Kept,ka,kb,kc,kd,ke,kfa,kga] at hK
    go_upto_region 12 with (go_at_call 120;refine (htwo _).mono ?_;rintro _ w9 ⟨rfl,rfl⟩;rw [htw])
    clear hK
    refine Qr.wp_below_all (by kernel_rfl) (by kernel_rfl) PhiFs ?_
    repeat (first | (refine Qr.walk_plain rfl fun K hK => ?_;refine one_bin _ _ _ _ _ rfl _ _ _ rfl rfl rfl (fun r hr => ?_);go_simp;refine hK _ ?_;clear hK K) | (refine Qr.walk_plain rfl fun K hK => ?_;apply Qr.one_det;(focus (intro w' hw';have HK:=keep hkept hw';simp only [Kept,ka,kb,kc,kd,ke,kfa,kga] at HK;go_simp;first | done | rfl));go_simp;refine hK _ ?_;clear hK K) | (refine Qr.walk_plain rfl fun K hK => ?_;apply Qr.one_call;(focus (intro w' hw';go_simp;first | done | exact ⟨rfl,rfl⟩));(focus (intro w' hw'; go_at_call 198;refine (s_greater_any _ _ _).mono ?_;rintro _ w2 ⟨r1,rfl,hr1,hb1⟩ ;exact ⟨_,rfl,by constructor <;> assumption,below_step hw' (by assumption),by assumption⟩));intro v hv;cases hv;go_simp;refine hK _ ?_;clear hK K))
    rename_i q1 hq1 q2 hq2 g1 hg1 q3 hq3 g2 hg2
    have hr1:cn .f32 r = B .mul (cn .f32 va) (greaterF (greaterF (B .quo (cn .f32 1065353216) (cn .f32 a)) (B .quo (cn .f32 1065353216) (cn .f32 b))) (B .quo (cn .f32 1065353216) (cn .f32 c))):=by rw [hr,hg2,hg1,hq3,hq2,hq1]
    clear hq1 hq2 hg1 hq3 hg2 hr
    refine Qr.walk_nil fun w6 hw6 => ?_
    have hown6:=owns_below hown4 hw6
    have W6b:=below_step W4b hw6
    have hs6:=W6b.size
    go_wp2_with (at_builtin;refine wp_appF w.heap.size rfl (.tmp 121) (.tmp 123) rfl _ m xs rfl (hown6.alloc _) w6.heap.size r rfl (by simp) (by omega) (by simp;omega) ?_;intro v5 w5 hown5 hg5)
    exact ⟨⟨m + 1,xs ++ [r],by omega,by simp,hown5,by rw [List.map_append,hHxs.out,hFV.out,hFVk.out];simp only [List.map_cons,List.map_nil,hr1],grown_below (W6b.alloc hs6 _) (hown6.alloc _) hg5 hw2⟩,by simp [intOf];omega⟩
   have hd:=facV_def (L:=facs ns m) hk4 hk11
   by_cases hc1:(ruleF n.kind).2.1 = 1
   ·have hFVk:Hid (facV n (facs ns m) = cn .f32 va):=by unfold Hid;rw [hd,hc1,if_pos rfl,hHa.out,hgetA.out]
    have hlf:inI n.kind 0 4 = false:=by rw [hki1,hc1];rfl
    have htw:inI n.kind 5 8 = false:=by rw [hki2,hc1];rfl
    have hK:=hkept;simp only [Kept,ka,kb,kc,kd,ke,kfa,kga] at hK
    clear hnp hca hcb hokn hokk hoknn hnc4 hkept hkd hd hc0 hki1 hki2 hc1
    go_wp2_with (first | (go_at_call 119;refine (hleaf _).mono ?_;rintro _ w9 ⟨rfl,rfl⟩;rw [hlf]) | (go_at_call 120;refine (htwo _).mono ?_;rintro _ w9 ⟨rfl,rfl⟩;rw [htw]) | (at_builtin;refine wp_appF w.heap.size rfl (.tmp 121) (.tmp 123) rfl _ m xs rfl (hown4.alloc _) wr.heap.size va rfl (by simp) (by omega) (by simp;omega) ?_;intro v5 w5 hown5 hg5))
    exact ⟨⟨m + 1,xs ++ [va],by omega,by simp,hown5,by rw [List.map_append,hHxs.out,hFV.out,hFVk.out];simp only [List.map_cons,List.map_nil],grown_below (W4b.alloc hs4 _) (hown4.alloc _) hg5 hw2⟩,by simp [intOf];omega⟩
   have hc2:(ruleF n.kind).2.1 = 2:=by omega
   have hbb:=hcb hc2
   obtain ⟨cb,hcbI⟩:=Int.eq_ofNat_of_zero_le hbb.1
   have hcbl:cb < m:=by omega
   have hcbL:(cb:Int) < (m:Int):=by omega
   have hcB:=hown4.cellAt cb (by omega)
   rw [show (fl xs)[cb]? = some (F1 xs[cb]) by simp [fl]] at hcB
   have hHb:Hid (n.b.toNat = cb):=by unfold Hid;rw [hcbI];rfl
   have hgetB:Hid ((facs ns m).getD cb 0 = cn .f32 xs[cb]):=by unfold Hid;rw [← hHxs.out,List.getD_eq_getElem?_getD,List.getElem?_map,List.getElem?_eq_getElem (show cb < xs.length by omega)];rfl
   have hxb:xs[cb] = xs[cb]:=rfl
   generalize xs[cb] = vb at hcB hgetB
   rw [hcbI] at hkept
   have hkept:=kept_app hkept (show Kept [(⟨g6,cb,none⟩,F1 vb)] [] wr by simp only [Kept,ka,kb,kc,kd,ke,kfa,kga];exact hcB)
   have hFVk:Hid (facV n (facs ns m) = greaterF (cn .f32 va) (cn .f32 vb)):=by unfold Hid;rw [hd,hc2,hHa.out,hgetA.out,hHb.out,hgetB.out];rfl
   clear hxb hcB hbb hcbI
   have htw:inI n.kind 5 8 = true:=by rw [hki2,hc2];rfl
   have hK:=hkept;simp only [Kept,ka,kb,kc,kd,ke,kfa,kga] at hK
   clear hnp hca hcb hokn hokk hoknn hnc4 hkd hd hc0 hc1 hki1 hki2 hc2
   go_upto_region 10 with (go_at_call 120;refine (htwo _).mono ?_;rintro _ w9 ⟨rfl,rfl⟩;rw [htw])
   clear hK
   refine Qr.wp_below_all (by kernel_rfl) (by kernel_rfl) PhiFs ?_
   repeat (first | (refine Qr.walk_plain rfl fun K hK => ?_;apply Qr.one_det;(focus (intro w' hw';have HK:=keep hkept hw';simp only [Kept,ka,kb,kc,kd,ke,kfa,kga] at HK;go_simp;first | done | rfl));go_simp;refine hK _ ?_;clear hK K) | (refine Qr.walk_plain rfl fun K hK => ?_;apply Qr.one_call;(focus (intro w' hw';go_simp;first | done | exact ⟨rfl,rfl⟩));(focus (intro w' hw'; go_at_call 198;refine (s_greater_any _ _ _).mono ?_;rintro _ w2 ⟨r1,rfl,hr1,hb1⟩ ;exact ⟨_,rfl,by constructor <;> assumption,below_step hw' (by assumption),by assumption⟩));intro v hv;cases hv;go_simp;refine hK _ ?_;clear hK K))
   rename_i r1 hr1
   refine Qr.walk_nil fun w6 hw6 => ?_
   ·have hown6:=owns_below hown4 hw6
    have W6b:=below_step W4b hw6
    have hs6:=W6b.size
    go_wp2_with (at_builtin;refine wp_appF w.heap.size rfl (.tmp 121) (.tmp 123) rfl _ m xs rfl (hown6.alloc _) w6.heap.size r1 rfl (by simp) (by omega) (by simp;omega) ?_;intro v5 w5 hown5 hg5)
    exact ⟨⟨m + 1,xs ++ [r1],by omega,by simp,hown5,by rw [List.map_append,hHxs.out,hFV.out,hFVk.out];simp only [List.map_cons,List.map_nil,hr1],grown_below (W6b.alloc hs6 _) (hown6.alloc _) hg5 hw2⟩,by simp [intOf];omega⟩
  ·obtain rfl:m = ns.length:=by omega
   have hHxs:=Lib.hid hxs
   have hSr:=(hsh.keep Wb).list
   clear hxs hsh hok hsb hi hz0 hz1 hz2 hlist
   have hlen:xs.length = ns.length:=by have:=hown.1;simpa using this
   obtain ⟨g6,cap6,rfl,hg6,hg6s⟩:=hown.form (by omega)
   have hcA:=hown.cellAt (ns.length - 1) (by omega)
   rw [show (fl xs)[ns.length - 1]? = some (F1 (xs[ns.length - 1]'(by omega))) by simp [fl]] at hcA
   have hget:Hid ((facs ns ns.length).getD (ns.length - 1) 0 = cn .f32 (xs[ns.length - 1]'(by omega))):=by unfold Hid;rw [← hHxs.out,List.getD_eq_getElem?_getD,List.getElem?_map,List.getElem?_eq_getElem (show ns.length - 1 < xs.length by omega)];rfl
   generalize xs[ns.length - 1]'(by omega) = va at hcA hget
   have hlast:wrap64 ((ns.length:Int) - 1) = ((ns.length - 1:Nat):Int):=by unfold wrap64;omega
   have hl1:((ns.length - 1:Nat):Int) < (ns.length:Int):=by omega
   have hl0:(0:Int) ≤ ((ns.length - 1:Nat):Int):=by omega
   go_wp2_with (go_at_call 83;refine (last_any sb so (some ⟨nb,no,none⟩) ns.length cap _ hSr).mono ?_;rintro _ wr ⟨rfl,rfl⟩;rw [hlast])
   go_ret
   exact ⟨_,rfl,hget.out.symm,Wb⟩
end Go.Proofs.YtbiacfkiakddiaaGreat

namespace Go.Proofs.YtbiacfkiakddiaaGreat
open Go.RowKit Go.Fl
def facF (ns:List PN):Nat:=(facs ns ns.length).getD (ns.length - 1) 0
def slopeF (ns:List PN):Nat:=if gtk .f32 (facF ns) 1065353216 || eqk .f32 (facF ns) 1065353216 then facF ns else 1065353216

theorem slope_if {ns:List PN} {r:Nat} {b:Bool} (hr:cn .f32 r = facF ns) (h:((FloatKind.f32.format.order r 1065353216 == some .gt) || (FloatKind.f32.format.order r 1065353216 == some .eq)) = b):slopeF ns = if b then cn .f32 r else 1065353216:=by
 unfold slopeF gtk eqk
 rw [← hr,ord_c .f32 r cn_one,h]

set_option maxRecDepth 100000 in
set_option maxHeartbeats 1000000 in
theorem slope_any (ns:List PN) (hok:OkAll ns) (hl:1 ≤ ns.length ∧ ns.length ≤ 16) (sb so nb no cap:Nat) (w:World) (hsh:ShapeIn ns sb so nb no cap w) :
  Calls Tryz.prog 247 #[.pointer (some ⟨sb,so,none⟩)] w (Ret .f32 (slopeF ns) w):=by
 have hf:Calls Tryz.prog 268 #[.pointer (some ⟨sb,so,none⟩)] w (Ret .f32 (facF ns) w):=factor_any ns hok hl sb so nb no cap w hsh
 clear hsh hok
 go_enter Tryz.func247,Tryz.ntmps247
 go_upto_region 2 with (go_at_call 268;refine hf.mono ?_;rintro _ w2 ⟨r,rfl,hr,hb1⟩)
 cases hb:((FloatKind.f32.format.order r 1065353216 == some .gt) || (FloatKind.f32.format.order r 1065353216 == some .eq))
 ·have hs:=Lib.hid (slope_if hr hb)
  go_wp2_with fail
  go_ret
  exact ⟨_,rfl,by rw [hs.out,cn_one];rfl,hb1⟩
 ·have hs:=Lib.hid (slope_if hr hb)
  go_wp2_with fail
  go_ret
  exact ⟨_,rfl,by rw [hs.out];rfl,hb1⟩

set_option maxRecDepth 100000 in
set_option maxHeartbeats 1000000 in
theorem s_factorof_any (ns:List PN) (hv:validS ns = true) (hnum:∀ n ∈ ns,n.nums.length < 10000000) (hok:OkAll ns) (hl:1 ≤ ns.length ∧ ns.length ≤ 16) (nb no cap:Nat) (w:World) (hsh:∀ i (h:i < ns.length),NodeIn ns[i] nb (no + i * 4) w) :
  Calls Tryz.prog 265 #[.agg #[.slice (some ⟨nb,no,none⟩) ns.length cap]] w (fun e w' => ∃ r,e = .returned (.tuple #[F1 r,.bool true]) ∧ cn .f32 r = facF ns ∧ Below w.heap.size w w'):=by
 go_enter Tryz.func265,Tryz.ntmps265
 go_wp2_with fail
 generalize hW:w.alloc (.cells #[.slice (some ⟨nb,no,none⟩) ns.length cap] 36) = W1 at *
 have W1b:Below w.heap.size w W1:=by subst hW;exact (by repeat' (first | exact Below.refl _ _ | exact Nat.le_refl _ | refine below_drewN ?_ _ | refine Below.alloc ?_ (by simp <;> omega) _ | refine Below.setCell ?_ (by simp <;> omega) _ | refine below_step ?_ (by assumption)))
 have hkept:Kept [(⟨w.heap.size,0,none⟩,.slice (some ⟨nb,no,none⟩) ns.length cap)] [] W1:=by
  subst hW;simp only [Kept,ka,kb,kc,kd,ke,kfa,kga];(first | (go_simp;done) | (simp [World.cell?,World.frozen?,World.alloc,Array.getElem?_push];done))
 clear hW
 have hK:=hkept;simp only [Kept,ka,kb,kc,kd,ke,kfa,kga] at hK
 have hsh1:∀ i (h:i < ns.length),NodeIn ns[i] nb (no + i * 4) W1:=fun i h => (hsh i h).keep W1b
 have hv1:=s_is_any ns hnum w.heap.size 0 nb no cap (some ⟨nb,no,none⟩) W1 hK (fun _ => rfl) hsh1 (by omega)
 rw [hv] at hv1
 refine hv1.mono ?_
 rintro _ w2 ⟨rfl,hb1⟩
 have W2b:=below_step W1b hb1
 have hkept:=keepT hkept hb1 rfl;clear hK;have hK:=hkept;simp only [Kept,ka,kb,kc,kd,ke,kfa,kga] at hK
 have hf:Calls Tryz.prog 277 #[.pointer (some ⟨w.heap.size,0,none⟩)] w2 (Ret .f32 (facF ns) w2):=s_factor_any ns hok hl w.heap.size 0 nb no cap w2 ⟨hK,fun i h => (hsh i h).keep W2b⟩
 clear hsh hsh1 hnum hok hv1
 go_wp2_with (go_at_call 277;refine hf.mono ?_;rintro _ w3 ⟨r,rfl,hr,hb3⟩)
 go_ret2
 exact ⟨r,rfl,hr,below_step W2b hb3⟩

set_option maxRecDepth 100000 in
set_option maxHeartbeats 1000000 in
theorem s_slope_any (ns:List PN) (hv:validS ns = true) (hnum:∀ n ∈ ns,n.nums.length < 10000000) (hok:OkAll ns) (hl:1 ≤ ns.length ∧ ns.length ≤ 16) (sb so nb no cap:Nat) (w:World) (hsh:ShapeIn ns sb so nb no cap w) :
  Calls Tryz.prog 240 #[.pointer (some ⟨sb,so,none⟩)] w (Ret .f32 (slopeF ns) w):=by
 have hf:=s_factorof_any ns hv hnum hok hl nb no cap w hsh.node
 have hK:=hsh.list
 clear hsh hok hnum hv
 go_enter Tryz.func240,Tryz.ntmps240
 go_upto_region 2 with (go_at_call 265;refine hf.mono ?_;rintro _ w2 ⟨r,rfl,hr,hb1⟩)
 cases hb:((FloatKind.f32.format.order r 1065353216 == some .gt) || (FloatKind.f32.format.order r 1065353216 == some .eq))
 ·have hs:=Lib.hid (slope_if hr hb)
  go_wp2_with fail
  go_ret
  exact ⟨_,rfl,by rw [hs.out,cn_one];rfl,hb1⟩
 ·have hs:=Lib.hid (slope_if hr hb)
  go_wp2_with fail
  go_ret
  exact ⟨_,rfl,by rw [hs.out];rfl,hb1⟩
end Go.Proofs.YtbiacfkiakddiaaGreat

namespace Go.Proofs.YtbiacfkiakddiaaGreat
open Go.RowKit Go.Fl
/-- Marching: how it ends,after how many steps,and how far. -/
def marchGo (D:Nat × Nat × Nat → Nat) (f t:Nat × Nat × Nat) (sl near most:Nat):Nat → Nat → Nat → Nat × Nat × Nat
 | 0,k,far => (2,k - 1,far)
 | m + 1,k,far =>
  if ltk .f32 (D (onF f t far)) near then (1,k,far)
  else if lek .f32 (B .add far (B .quo (D (onF f t far)) sl)) most then marchGo D f t sl near most m (k + 1) (B .add far (B .quo (D (onF f t far)) sl))
  else (0,k,B .add far (B .quo (D (onF f t far)) sl))

abbrev HitV (k s far x y z:Nat):Value:=.agg #[.int .i64 (k:Int),.int .i64 (s:Int),F1 far,F1 x,F1 y,F1 z]

/-- A hit comes back. -/
def RetHit (f t:Nat × Nat × Nat) (h:Nat × Nat × Nat) (w:World) (e:Ending) (w':World):Prop :=
 ∃ far x y z,e = .returned (HitV h.1 h.2.1 far x y z) ∧ cn .f32 far = h.2.2 ∧ (cn .f32 x,cn .f32 y,cn .f32 z) = onF f t h.2.2 ∧ Below w.heap.size w w'

inductive PhiOn (fo:FuncId) (F T:Nat × Nat × Nat):FuncId → Array Value → Value → Prop
 | on (p:Value) (far x y z:Nat) (h:(cn .f32 x,cn .f32 y,cn .f32 z) = onF F T (cn .f32 far)):PhiOn fo F T fo #[p,F1 far] (V3 x y z)

theorem bel6 {B g:Nat} {a w:World} (h:Below B a w) (hg:B ≤ g) (x0 x1 x2 x3 x4 x5:Value):Below B a ((((((w.setCell ⟨g,0,none⟩ x0).setCell ⟨g,1,none⟩ x1).setCell ⟨g,2,none⟩ x2).setCell ⟨g,3,none⟩ x3).setCell ⟨g,4,none⟩ x4).setCell ⟨g,5,none⟩ x5) :=
 (((((h.setCell (p:=⟨g,0,none⟩) hg _).setCell (p:=⟨g,1,none⟩) hg _).setCell (p:=⟨g,2,none⟩) hg _).setCell (p:=⟨g,3,none⟩) hg _).setCell (p:=⟨g,4,none⟩) hg _).setCell (p:=⟨g,5,none⟩) hg _

set_option maxRecDepth 100000 in
set_option maxHeartbeats 4000000 in
theorem march_any (ns:List PN) (hok:OkAll ns) (hl:1 ≤ ns.length ∧ ns.length ≤ 16) (sb so nb no cap a b c d e f near most:Nat) (n:Nat) (hn:n ≤ 64) (w:World) (hsh:ShapeIn ns sb so nb no cap w) :
  Calls Tryz.prog 174 #[.pointer (some ⟨sb,so,none⟩),.agg #[F1 a,F1 b,F1 c,F1 d,F1 e,F1 f],.agg #[F1 near,F1 most,.int .i64 (n:Int)]] w
   (RetHit (cn .f32 a,cn .f32 b,cn .f32 c) (cn .f32 d,cn .f32 e,cn .f32 f) (marchGo (topF ns) (cn .f32 a,cn .f32 b,cn .f32 c) (cn .f32 d,cn .f32 e,cn .f32 f) (slopeF ns) (cn .f32 near) (cn .f32 most) n 1 0) w):=by
 obtain ⟨R,hR⟩:∃ R,Hid (R = marchGo (topF ns) (cn .f32 a,cn .f32 b,cn .f32 c) (cn .f32 d,cn .f32 e,cn .f32 f) (slopeF ns) (cn .f32 near) (cn .f32 most) n 1 0):=⟨_,rfl⟩
 rw [← hR.out]
 have hsb:sb < w.heap.size:=some_lt (a:=⟨sb,so,none⟩) (by rw [hsh.list];rfl)
 have hat:∀ w',Below w.heap.size w w' → ∀ (x y z:Nat),Calls Tryz.prog 85 #[.pointer (some ⟨sb,so,none⟩),V3 x y z] w' (Ret .f32 (topF ns (cn .f32 x,cn .f32 y,cn .f32 z)) w'):=fun w' hb x y z => at_any ns hok ⟨hl.1,by omega⟩ sb so nb no cap x y z w' (hsh.keep hb)
 have hsl:∀ w',Below w.heap.size w w' → Calls Tryz.prog 247 #[.pointer (some ⟨sb,so,none⟩)] w' (Ret .f32 (slopeF ns) w'):=fun w' hb => slope_any ns hok hl sb so nb no cap w' (hsh.keep hb)
 clear hsh hok
 go_enter Tryz.func174,Tryz.ntmps174
 go_wp2_with fail
 generalize hW:((w.alloc (.cells #[F1 a,F1 b,F1 c,F1 d,F1 e,F1 f] 225)).alloc (.cells #[F1 near,F1 most,.int .i64 (n:Int)] 84)).alloc (.cells #[.int .i64 0,.int .i64 0,F1 0,F1 0,F1 0,F1 0] 230) = W1 at *
 have W1b:Below w.heap.size w W1:=by subst hW;exact (by repeat' (first | exact Below.refl _ _ | exact Nat.le_refl _ | refine below_drewN ?_ _ | refine Below.alloc ?_ (by simp <;> omega) _ | refine Below.setCell ?_ (by simp <;> omega) _ | refine below_step ?_ (by assumption)))
 have hkept:Kept [(⟨w.heap.size,0,none⟩,F1 a),(⟨w.heap.size,1,none⟩,F1 b),(⟨w.heap.size,2,none⟩,F1 c),(⟨w.heap.size,3,none⟩,F1 d),(⟨w.heap.size,4,none⟩,F1 e),(⟨w.heap.size,5,none⟩,F1 f),(⟨w.heap.size + 1,0,none⟩,F1 near),(⟨w.heap.size + 1,1,none⟩,F1 most),(⟨w.heap.size + 1,2,none⟩,.int .i64 (n:Int)),(⟨w.heap.size + 1 + 1,0,none⟩,.int .i64 0),(⟨w.heap.size + 1 + 1,1,none⟩,.int .i64 0),(⟨w.heap.size + 1 + 1,2,none⟩,F1 0),(⟨w.heap.size + 1 + 1,3,none⟩,F1 0),(⟨w.heap.size + 1 + 1,4,none⟩,F1 0),(⟨w.heap.size + 1 + 1,5,none⟩,F1 0)] [⟨w.heap.size + 1 + 1,0,none⟩,⟨w.heap.size + 1 + 1,1,none⟩,⟨w.heap.size + 1 + 1,2,none⟩,⟨w.heap.size + 1 + 1,3,none⟩,⟨w.heap.size + 1 + 1,4,none⟩,⟨w.heap.size + 1 + 1,5,none⟩] W1:=by
  subst hW;simp only [Kept,ka,kb,kc,kd,ke,kfa,kga];(first | (go_simp;done) | (simp [World.cell?,World.frozen?,World.alloc,Array.getElem?_push];done))
 clear hW
 refine (hsl _ W1b).mono ?_
 rintro _ w2 ⟨sl,rfl,hsl2,hb1⟩
 have W2b:=below_step W1b hb1
 have hkept:=keep hkept hb1
 clear hb1 W1b hsl
 rw [← hsl2] at hR
 clear hsl2
 go_wp2_with fail
 have hkW2:=hkept
 clear hkept
 go_loopw [7,9] (fun s i wr => ∃ (j far:Nat),1 ≤ j ∧ j ≤ n + 1 ∧ i = .int .i64 (j:Int) ∧ s = F1 far ∧ Hid (R = marchGo (topF ns) (cn .f32 a,cn .f32 b,cn .f32 c) (cn .f32 d,cn .f32 e,cn .f32 f) (cn .f32 sl) (cn .f32 near) (cn .f32 most) (n + 1 - j) j (cn .f32 far)) ∧ Below w2.heap.size w2 wr) (fun _ i _ => 70 - (intOf i).toNat)
 case atStart => exact ⟨1,0,by omega,by omega,rfl,rfl,by unfold Hid;rw [hR.out,cn_zero];rfl,Below.refl _ _⟩
 case round =>
  obtain ⟨j,far,hj1,hjn,rfl,rfl,hgo,Wb⟩:=hrel
  have hkept:=keep hkW2 Wb
  have Wrb:=below_step W2b Wb
  clear hkW2 hR
  have hK:=hkept;simp only [Kept,ka,kb,kc,kd,ke,kfa,kga] at hK
  by_cases hle:j ≤ n
  ·have hle':(j:Int) ≤ (n:Int):=by omega
   have hj9:(j:Int) ≤ 64:=by omega
   have hri:RayIn a b c d e f w.heap.size 0 wr:=⟨by simp only [Kept,ka,kb,kc,kd,ke,kfa,kga];simp [hK]⟩
   obtain ⟨P,hP⟩:∃ P,Hid (onF (cn .f32 a,cn .f32 b,cn .f32 c) (cn .f32 d,cn .f32 e,cn .f32 f) (cn .f32 far) = P):=⟨_,rfl⟩
   have hgo2:=hgo.out
   rw [show n + 1 - j = (n - j) + 1 by omega,marchGo,hP.out] at hgo2
   have hgo:=Lib.hid hgo2
   clear hgo2
   go_upto_region 6 with (first
    | (go_at_call 248;refine (on_any _ _ _ _ _ _ _ 0 _ _ hri).mono ?_;rintro _ w3 ⟨x,y,z,rfl,hx,hy,hz,hb1⟩;have hri2:=hri.keep hb1;have hkept:=keepT hkept hb1 rfl;clear hK;have hK:=hkept;simp only [Kept,ka,kb,kc,kd,ke,kfa,kga] at hK)
    | (go_at_call 85;refine (hat _ (below_step Wrb (by assumption)) _ _ _).mono ?_;rintro _ w4 ⟨dd,rfl,hd,hb2⟩))
   have hXP:(cn .f32 x,cn .f32 y,cn .f32 z) = P:=by rw [← hP.out,hx,hy,hz]
   have hgo2:=hgo.out
   rw [← hXP,← hd] at hgo2
   have hgo:=Lib.hid hgo2
   clear hgo2 hx hy hz hXP hd
   have hri4:=hri2.keep hb2
   have hkept:=keep hkept hb2
   have W4b:=below_step (below_step Wrb hb1) hb2
   have Wb4:=below_step (below_step Wb hb1) hb2
   clear hri hri2 hb1 hb2 Wrb hK Wb
   have hK:=hkept;simp only [Kept,ka,kb,kc,kd,ke,kfa,kga] at hK
   cases hlt:(FloatKind.f32.format.order dd near == some .lt)
   ·have hgo2:=hgo.out
    rw [ltk_cn,ltk,hlt] at hgo2
    simp only [Bool.false_eq_true,if_false] at hgo2
    have hgo:=Lib.hid hgo2
    clear hgo2
    go_upto_region 9 with ((refine wp_bin rfl _ _ _ _ _ rfl _ _ _ rfl rfl rfl ?_;intro r n hr))
    obtain ⟨r1,hr1,hr2⟩:∃ r1,cn .f32 r1 = B .quo (cn .f32 dd) (cn .f32 sl) ∧ cn .f32 r = B .add (cn .f32 far) (cn .f32 r1):=⟨_,‹cn FloatKind.f32 _ = bin BinOp.quo FloatKind.f32 (cn .f32 dd) (cn .f32 sl)›,hr⟩
    have hgo2:=hgo.out
    rw [← hr1,← hr2] at hgo2
    have hgo:=Lib.hid hgo2
    clear hgo2 hr1 hr2 hr
    have hle3:lek .f32 (cn .f32 r) (cn .f32 most) = (FloatKind.f32.format.order r most == some .lt || FloatKind.f32.format.order r most == some .eq):=by unfold lek;rw [order_cn]
    cases hle2:(FloatKind.f32.format.order r most == some .lt || FloatKind.f32.format.order r most == some .eq)
    ·have hgo2:=hgo.out
     rw [hle3,hle2] at hgo2
     simp only [Bool.false_eq_true,if_false] at hgo2
     have hgo:=Lib.hid hgo2
     clear hgo2 hle3
     go_wp2_with (go_at_call 248;refine (on_any _ _ _ _ _ _ _ 0 _ _ (by exact ⟨hri4.kept⟩)).mono ?_;rintro _ w5 ⟨x2,y2,z2,rfl,hx2,hy2,hz2,hb1⟩;have hkept:=keepT hkept hb1 rfl;clear hK;have hK:=hkept;simp only [Kept,ka,kb,kc,kd,ke,kfa,kga] at hK)
     have hgo2:=hgo.out
     have hX:(cn .f32 x2,cn .f32 y2,cn .f32 z2) = onF (cn .f32 a,cn .f32 b,cn .f32 c) (cn .f32 d,cn .f32 e,cn .f32 f) (cn .f32 r):=by rw [hx2,hy2,hz2]
     have h1:Ending.returned (HitV 0 j r x2 y2 z2) = .returned (HitV R.1 R.2.1 r x2 y2 z2):=by rw [hgo2]
     have h2:cn .f32 r = R.2.2:=by rw [hgo2]
     have h3:(cn .f32 x2,cn .f32 y2,cn .f32 z2) = onF (cn .f32 a,cn .f32 b,cn .f32 c) (cn .f32 d,cn .f32 e,cn .f32 f) R.2.2:=by rw [hX,hgo2]
     exact bodyPost_ret (v:=HitV 0 j r x2 y2 z2) (by simp [results,Tryz.results174,go_sem,hK,World.cell?_setCell_other,World.cell?_setCell_same']) rfl ⟨r,x2,y2,z2,h1,h2,h3,bel6 (below_step (below_drewN W4b _) hb1) (by omega) ..⟩
    ·have hgo2:=hgo.out
     rw [hle3,hle2] at hgo2
     simp only [if_true] at hgo2
     have hgo:=Lib.hid hgo2
     clear hgo2 hle3
     go_wp2_with fail
     exact ⟨⟨j + 1,r,by omega,by omega,rfl,rfl,by unfold Hid;rw [hgo.out,Nat.add_sub_add_right],below_drewN Wb4 _⟩,by simp [intOf];omega⟩
   ·have hgo2:=hgo.out
    rw [ltk_cn,ltk,hlt] at hgo2
    simp only [if_true] at hgo2
    go_wp2_with (go_at_call 248;refine (on_any _ _ _ _ _ _ _ 0 _ _ hri4).mono ?_;rintro _ w5 ⟨x2,y2,z2,rfl,hx2,hy2,hz2,hb1⟩;have hkept:=keepT hkept hb1 rfl;clear hK;have hK:=hkept;simp only [Kept,ka,kb,kc,kd,ke,kfa,kga] at hK)
    have hX:(cn .f32 x2,cn .f32 y2,cn .f32 z2) = onF (cn .f32 a,cn .f32 b,cn .f32 c) (cn .f32 d,cn .f32 e,cn .f32 f) (cn .f32 far):=by rw [hx2,hy2,hz2]
    have h1:Ending.returned (HitV 1 j far x2 y2 z2) = .returned (HitV R.1 R.2.1 far x2 y2 z2):=by rw [hgo2]
    have h2:cn .f32 far = R.2.2:=by rw [hgo2]
    have h3:(cn .f32 x2,cn .f32 y2,cn .f32 z2) = onF (cn .f32 a,cn .f32 b,cn .f32 c) (cn .f32 d,cn .f32 e,cn .f32 f) R.2.2:=by rw [hX,hgo2]
    exact bodyPost_ret (v:=HitV 1 j far x2 y2 z2) (by simp [results,Tryz.results174,go_sem,hK,World.cell?_setCell_other,World.cell?_setCell_same']) rfl ⟨far,x2,y2,z2,h1,h2,h3,bel6 (below_step W4b hb1) (by omega) ..⟩
  ·have hle':¬ (j:Int) ≤ (n:Int):=by omega
   obtain rfl:j = n + 1:=by omega
   have hgo2:=hgo.out
   rw [Nat.sub_self,marchGo,Nat.add_sub_cancel] at hgo2
   have hri:RayIn a b c d e f w.heap.size 0 wr:=⟨by simp only [Kept,ka,kb,kc,kd,ke,kfa,kga];simp [hK]⟩
   go_upto_region 11 with fail
   clear hK
   refine Qr.wp_below 6 (by kernel_rfl) (by kernel_rfl) (PhiOn 248 (cn .f32 a,cn .f32 b,cn .f32 c) (cn .f32 d,cn .f32 e,cn .f32 f)) ?_
   repeat (first
    | (refine Qr.walk_plain rfl fun K hK => ?_;apply Qr.one_det;(focus (intro w' hw';have HK:=keep hkept hw';simp only [Kept,ka,kb,kc,kd,ke,kfa,kga] at HK;go_simp;first | done | rfl));go_simp;refine hK _ ?_;clear hK K)
    | (refine Qr.walk_plain rfl fun K hK => ?_;apply Qr.one_call;(focus (intro w' hw';go_simp;first | done | exact ⟨rfl,rfl⟩));(focus (intro w' hw'; go_at_call 248;refine (on_any _ _ _ _ _ _ _ 0 _ _ (hri.keep hw')).mono ?_;rintro _ w3 ⟨r1,r2,r3,rfl,hr1,hr2,hr3,hb1⟩;exact ⟨_,rfl,PhiOn.on _ _ _ _ _ (by rw [hr1,hr2,hr3]),below_step hw' (by assumption),by assumption⟩));intro v hv;cases hv;go_simp;refine hK _ ?_;clear hK K))
   rename_i x2 y2 z2 hX
   refine Qr.walk_nil fun w5 hw5 => ?_
   have hkept:=keep hkept hw5
   have W5b:=below_step Wrb hw5
   have hK:=hkept;simp only [Kept,ka,kb,kc,kd,ke,kfa,kga] at hK
   have h1:Ending.returned (HitV 2 n far x2 y2 z2) = .returned (HitV R.1 R.2.1 far x2 y2 z2):=by rw [hgo2]
   have h2:cn .f32 far = R.2.2:=by rw [hgo2]
   have h3:(cn .f32 x2,cn .f32 y2,cn .f32 z2) = onF (cn .f32 a,cn .f32 b,cn .f32 c) (cn .f32 d,cn .f32 e,cn .f32 f) R.2.2:=by rw [hX,hgo2]
   clear hgo2 hX
   go_wp2_with fail
   exact bodyPost_ret (v:=HitV 2 n far x2 y2 z2) (by simp [results,Tryz.results174,go_sem,hK,World.cell?_setCell_other,World.cell?_setCell_same']) rfl ⟨far,x2,y2,z2,h1,h2,h3,bel6 W5b (by omega) ..⟩
end Go.Proofs.YtbiacfkiakddiaaGreat
