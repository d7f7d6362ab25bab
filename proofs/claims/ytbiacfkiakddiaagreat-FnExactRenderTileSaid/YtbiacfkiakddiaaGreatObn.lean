/-
 Lemmas: L5,Lg,S16a,X3,U1,U2,U3,U6.
-/
import Derived.Test.YtbiacfkiakddiaaGreatObh
import Derived.Test.YtbiacfkiakddiaaGreatObl
set_option linter.unusedVariables false
set_option linter.unusedSimpArgs false
namespace Go.Proofs.YtbiacfkiakddiaaGreat
open Go.RowKit Go.Fl
/-- A shape made anew comes back. -/
def RetSh (ns:List PN) (w:World) (e:Ending) (w':World):Prop :=
 ∃ G,e = .returned (.agg #[.slice (some ⟨G,0,none⟩) ns.length ns.length]) ∧ (∀ i (h:i < ns.length),NodeNew ns[i] G (0 + i * 4) w') ∧ w.heap.size ≤ G ∧ Below w.heap.size w w'

set_option maxRecDepth 100000 in
set_option maxHeartbeats 2000000 in
theorem to_shape (ns:List PN) (hlen:(ns.length:Int) ≤ 1048576) (hnum:∀ n ∈ ns,(n.nums.length:Int) ≤ 1048576) (bp:Option Addr) (nb no cap:Nat) (w:World) (hns:NodesIn ns bp nb no w) :
  Calls Tryz.prog 15 #[.agg #[.slice bp ns.length cap]] w (RetSh ns w):=by
 have hc:=fun w' (h:Below w.heap.size w w') => to_nodes ns hlen hnum bp nb no cap w' (hns.keep h)
 clear hns hnum
 go_enter Tryz.func15,Tryz.ntmps15
 go_wp2_with fail
 have Wb:Below w.heap.size w (((w.alloc (.cells #[.slice bp ns.length cap] 24)).alloc (.cells #[.slice none 0 0] 36)).alloc (.cells #[.slice none 0 0] 36)):=(by repeat' (first | exact Below.refl _ _ | exact Nat.le_refl _ | refine below_drewN ?_ _ | refine Below.alloc ?_ (by simp <;> omega) _ | refine Below.setCell ?_ (by simp <;> omega) _ | refine below_step ?_ (by assumption)))

 have hkept:Kept [(⟨w.heap.size + 1,0,none⟩,.slice none 0 0),(⟨w.heap.size + 1 + 1,0,none⟩,.slice none 0 0)] [⟨w.heap.size + 1,0,none⟩,⟨w.heap.size + 1 + 1,0,none⟩] (((w.alloc (.cells #[.slice bp ns.length cap] 24)).alloc (.cells #[.slice none 0 0] 36)).alloc (.cells #[.slice none 0 0] 36)):=by
  simp only [Kept,ka,kb,kc,kd,ke,kfa,kga];(first | (go_simp;done) | (simp [World.cell?,World.frozen?,World.alloc,Array.getElem?_push];done))
 have hWs:(((w.alloc (.cells #[.slice bp ns.length cap] 24)).alloc (.cells #[.slice none 0 0] 36)).alloc (.cells #[.slice none 0 0] 36)).heap.size = w.heap.size + 1 + 1 + 1:=by simp
 generalize ((w.alloc (.cells #[.slice bp ns.length cap] 24)).alloc (.cells #[.slice none 0 0] 36)).alloc (.cells #[.slice none 0 0] 36) = W at *
 refine (hc _ Wb).mono ?_
 rintro _ w2 ⟨G,rfl,hnew,hG,hb2⟩
 have W2b:=below_step Wb hb2
 have hkept2:=keep hkept hb2
 have hK:=hkept2
 simp only [Kept,ka,kb,kc,kd,ke,kfa,kga] at hK
 have hGs:w.heap.size + 1 + 1 < G:=by omega
 have hH:=Lib.hid hnew
 clear hc hkept hb2 Wb hnew hkept2 hG hWs
 obtain ⟨hK1,hK2⟩:=hK
 go_wp2_with fail
 refine bodyPost_ret (v:=.agg #[.slice (some ⟨G,0,none⟩) ns.length ns.length]) (by simp [results,Tryz.results15,go_sem,hK1,hK2]) rfl ⟨G,rfl,fun i hi => ?_,by omega,?_⟩
 ·exact ((hH.out i hi).far _ (by show w.heap.size + 1 + 1 < G;omega) _).far _ (by show w.heap.size + 1 < G;omega) _
 ·exact (W2b.setCell (by show w.heap.size ≤ w.heap.size + 1 + 1;omega) _).setCell (by exact Nat.le_succ _) _

set_option maxRecDepth 100000 in
set_option maxHeartbeats 1000000 in
theorem to_vector (x y z:Nat) (w:World) :
  Calls Tryz.prog 64 #[V3 x y z] w (fun e w' => e = .returned (V3 x y z) ∧ Below w.heap.size w w'):=by
 go_enter Tryz.func64,Tryz.ntmps64
 go_wp2_with fail
 exact bodyPost_ret (v:=.agg #[F1 _,F1 _,F1 _]) (by simp [results,Tryz.results64,go_sem];first | done | exact ⟨rfl,rfl,rfl⟩) rfl ⟨rfl,(by repeat' (first | exact Below.refl _ _ | exact Nat.le_refl _ | refine below_drewN ?_ _ | refine Below.alloc ?_ (by simp <;> omega) _ | refine Below.setCell ?_ (by simp <;> omega) _ | refine below_step ?_ (by assumption)))⟩

theorem order_self {k:FloatKind} {x:Nat} (h:(k.decode x).isNaN = false):k.format.order x x = some .eq:=by
 show (k.decode x).order (k.decode x) = _
 cases hd:k.decode x with
 | nan s t => rw [hd] at h;cases h
 | infinity s => cases s <;> rfl
 | number s m e =>
  show some (compare _ _) = _
  rw [Ft.cmp_eq.2 rfl]

theorem gt_same {a b:Nat} (h:cn .f64 a = cn .f64 b):((FloatKind.f64.format.order a 0 == some .gt) == (FloatKind.f64.format.order b 0 == some .gt)) = true:=by
 rw [← ord_r0 .f64 a,← ord_r0 .f64 b,h];simp

set_option maxRecDepth 100000 in
set_option maxHeartbeats 1000000 in
theorem same_float (u v:Nat) (h:cn .f64 u = cn .f64 v) (w:World) :
  Calls Tryz.prog 47 #[.float .f64 u,.float .f64 v] w (fun e w' => e = .returned (.bool true) ∧ Below w.heap.size w w'):=by
 cases hu:(FloatKind.f64.decode u).isNaN
 ·have hv:(FloatKind.f64.decode v).isNaN = false:=by rw [← isNaN_cn,← h,isNaN_cn];exact hu
  rw [cn_of_not hu,cn_of_not hv] at h
  subst h
  have h1:(FloatKind.f64.format.order u u != some .eq) = false:=by rw [order_self hu];rfl
  have h2:(FloatKind.f64.format.order u u == some .eq) = true:=by rw [order_self hu];rfl
  clear hu hv
  cases hz:(FloatKind.f64.format.order u 0 == some .eq)
  ·go_enter Tryz.func47,Tryz.ntmps47
   go_wp2_with (refine wp_bin rfl _ _ _ _ _ rfl _ _ _ rfl rfl rfl ?_;intro r n hr)
   go_ret
   exact ⟨by first | rfl | (rw [h2];rfl) | simp,(by repeat' (first | exact Below.refl _ _ | exact Nat.le_refl _ | refine below_drewN ?_ _ | refine Below.alloc ?_ (by simp <;> omega) _ | refine Below.setCell ?_ (by simp <;> omega) _ | refine below_step ?_ (by assumption)))⟩
  ·go_enter Tryz.func47,Tryz.ntmps47
   go_wp2_with (refine wp_bin rfl _ _ _ _ _ rfl _ _ _ rfl rfl rfl ?_;intro r n hr)
   go_ret
   exact ⟨congrArg Ending.returned (congrArg Value.bool (gt_same (by simp only [*]))),(by repeat' (first | exact Below.refl _ _ | exact Nat.le_refl _ | refine below_drewN ?_ _ | refine Below.alloc ?_ (by simp <;> omega) _ | refine Below.setCell ?_ (by simp <;> omega) _ | refine below_step ?_ (by assumption)))⟩
 ·have hv:(FloatKind.f64.decode v).isNaN = true:=by rw [← isNaN_cn,← h,isNaN_cn];exact hu
  have h1:(FloatKind.f64.format.order u u != some .eq) = true:=by
   show ((FloatKind.f64.decode u).order (FloatKind.f64.decode u) != some .eq) = true
   rw [order_nan_l hu];rfl
  have h2:(FloatKind.f64.format.order v v != some .eq) = true:=by
   show ((FloatKind.f64.decode v).order (FloatKind.f64.decode v) != some .eq) = true
   rw [order_nan_l hv];rfl
  clear hu hv h
  go_enter Tryz.func47,Tryz.ntmps47
  go_wp2_with fail
  go_ret
  exact ⟨rfl,(by repeat' (first | exact Below.refl _ _ | exact Nat.le_refl _ | refine below_drewN ?_ _ | refine Below.alloc ?_ (by simp <;> omega) _ | refine Below.setCell ?_ (by simp <;> omega) _ | refine below_step ?_ (by assumption)))⟩

open Go.RowKit Go.Fl
/-- float64(x) in a region that draws its order. -/
theorem one_wid {P:Program} {W:World} {Phi:FuncId → Array Value → Value → Prop} {o:Oper} {a:Act} {K:Act → Prop} (s d:TypeId) (x:Operand)
  (ho:o.op = .convert s d x) (u:Nat) (hx:a.eval x = F1 u) (hs:(P.underlying s).isSome = true) (hd:P.underlying d = some (.float .f64))
  (h:∀ r,cn .f64 r = wid (cn .f32 u) → K (a.put o.dst (.float .f64 r))):Qr.one P (fun w' => Below W.heap.size W w') Phi o a K:=by
 refine Qr.one_rel (fun x => ∃ r,x = .float .f64 r ∧ cn .f64 r = wid (cn .f32 u)) (fun w' hw' => ?_) ?_
 ·obtain ⟨r,n,hr,hc⟩:=run_conv (P:=P) w' s d .f32 .f64 (by decide) hs hd u (fitsW_all u)
  refine ⟨_,w'.drewN n,exec_convert o a s d x ho w' _ _ (by rw [hx];exact hr),⟨r,rfl,?_⟩,⟨hw'.os,hw'.tape,hw'.output,hw'.size,hw'.block⟩,rfl,rfl,rfl,Nat.le_refl _,fun _ _ => rfl⟩
  rw [hc];exact (cn_pick .f32 .f64 u).symm
 ·rintro _ ⟨r,rfl,hr⟩
  exact h r hr

inductive PhiE:FuncId → Array Value → Value → Prop
 | yes (f:FuncId) (args:Array Value):PhiE f args (.bool true)


set_option maxRecDepth 100000 in
set_option maxHeartbeats 2000000 in
theorem eq_floats (xs:List Nat) (hlen:(xs.length:Int) ≤ 1048576) (p q:Nat) (pc qc:Nat) (w:World) (h1:∀ i (h:i < xs.length),w.cell? ⟨p,0 + i,none⟩ = some (F1 xs[i])) (h2:∀ i (h:i < xs.length),w.cell? ⟨q,0 + i,none⟩ = some (F1 xs[i])) :
  Calls Tryz.prog 226 #[.slice (some ⟨p,0,none⟩) xs.length pc,.slice (some ⟨q,0,none⟩) xs.length qc] w (fun e w' => e = .returned (.bool true) ∧ Below w.heap.size w w'):=by
 go_enter Tryz.func226,Tryz.ntmps226
 go_wp2_with fail
 go_loopw [5] (fun i wr => ∃ (m:Nat),m ≤ xs.length ∧ i = .int .i64 (m:Int) ∧ Below w.heap.size w wr) (fun i _ => xs.length - (intOf i).toNat)
 case atStart => exact ⟨0,by omega,rfl,Below.refl _ _⟩
 case round =>
  obtain ⟨m,hm,rfl,Wb⟩:=hrel
  by_cases hlt:m < xs.length
  ·have hlt':(m:Int) < (xs.length:Int):=by omega
   have h0:(0:Int) ≤ (m:Int):=by omega
   have hc1:wr.cell? ⟨p,m,none⟩ = some (F1 xs[m]):=by have:=h1 m hlt;rw [Nat.zero_add] at this;rw [lift Wb _ (by rw [this];rfl)];exact this
   have hc2:wr.cell? ⟨q,m,none⟩ = some (F1 xs[m]):=by have:=h2 m hlt;rw [Nat.zero_add] at this;rw [lift Wb _ (by rw [this];rfl)];exact this
   generalize xs[m] = x at hc1 hc2
   have hkept:Kept [(⟨p,m,none⟩,F1 x),(⟨q,m,none⟩,F1 x)] [] wr:=by
    simp only [Kept,ka,kb,kc,kd,ke,kfa,kga]
    exact ⟨hc1,hc2⟩
   clear h1 h2 hc1 hc2
   go_upto_region 6 with fail
   refine Qr.wp_below_all (by kernel_rfl) (by kernel_rfl) PhiE ?_
   repeat (first | (refine Qr.walk_plain rfl fun K hK => ?_;apply Qr.one_det;(focus (intro w' hw';have HK:=keep hkept hw';simp only [Kept,ka,kb,kc,kd,ke,kfa,kga] at HK;go_simp;first | done | rfl));go_simp;refine hK _ ?_;clear hK K) | (refine Qr.walk_plain rfl fun K hK => ?_;refine one_wid _ _ _ rfl _ rfl some_f32 Tryz.underlying89 (fun r hr => ?_);go_simp;refine hK _ ?_;clear hK K) | (refine Qr.walk_plain rfl fun K hK => ?_;apply Qr.one_call;(focus (intro w' hw';go_simp;first | done | exact ⟨rfl,rfl⟩));(focus (intro w' hw'; go_at_call 47;refine (same_float _ _ (by simp only [*]) _).mono ?_;rintro _ w2 ⟨rfl,hb1⟩;exact ⟨_,rfl,PhiE.yes _ _,below_step hw' (by assumption),by assumption⟩));intro v hv;cases hv;go_simp;refine hK _ ?_;clear hK K))
   refine Qr.walk_nil fun w6 hw6 => ?_
   go_wp2_with fail
   exact ⟨⟨m + 1,by omega,by simp,below_step Wb hw6⟩,by simp [intOf];omega⟩
  ·obtain rfl:m = xs.length:=by omega
   clear h1 h2
   go_wp2_with fail
   go_ret
   exact ⟨rfl,Wb⟩

set_option maxRecDepth 100000 in
set_option maxHeartbeats 2000000 in
theorem eq_node (n:PN) (hlen:(n.nums.length:Int) ≤ 1048576) (p q pc qc:Nat) (w:World) (h1:∀ i (h:i < n.nums.length),w.cell? ⟨p,0 + i,none⟩ = some (F1 n.nums[i])) (h2:∀ i (h:i < n.nums.length),w.cell? ⟨q,0 + i,none⟩ = some (F1 n.nums[i])) :
  Calls Tryz.prog 139 #[.agg #[.int .i64 n.kind,.int .i64 n.a,.int .i64 n.b,.slice (some ⟨p,0,none⟩) n.nums.length pc],.agg #[.int .i64 n.kind,.int .i64 n.a,.int .i64 n.b,.slice (some ⟨q,0,none⟩) n.nums.length qc]] w (fun e w' => e = .returned (.bool true) ∧ Below w.heap.size w w'):=by
 have hc:∀ w',Below w.heap.size w w' → Calls Tryz.prog 226 #[.slice (some ⟨p,0,none⟩) n.nums.length pc,.slice (some ⟨q,0,none⟩) n.nums.length qc] w' (fun e w'' => e = .returned (.bool true) ∧ Below w'.heap.size w' w'') :=
  fun w' hb => eq_floats n.nums hlen p q pc qc w' (fun i h => by rw [lift hb _ (by rw [h1 i h];rfl)];exact h1 i h) (fun i h => by rw [lift hb _ (by rw [h2 i h];rfl)];exact h2 i h)
 clear h1 h2
 go_enter Tryz.func139,Tryz.ntmps139
 go_wp2_with (go_at_call 226;refine (hc _ (by repeat' (first | exact Below.refl _ _ | exact Nat.le_refl _ | refine below_drewN ?_ _ | refine Below.alloc ?_ (by simp <;> omega) _ | refine Below.setCell ?_ (by simp <;> omega) _ | refine below_step ?_ (by assumption)))).mono ?_;rintro _ w2 ⟨rfl,hb2⟩)
 go_ret
 exact ⟨rfl,(by repeat' (first | exact Below.refl _ _ | exact Nat.le_refl _ | refine below_drewN ?_ _ | refine Below.alloc ?_ (by simp <;> omega) _ | refine Below.setCell ?_ (by simp <;> omega) _ | refine below_step ?_ (by assumption)))⟩

set_option maxRecDepth 100000 in
set_option maxHeartbeats 2000000 in
theorem eq_nodes (ns:List PN) (hlen:(ns.length:Int) ≤ 1048576) (hnum:∀ n ∈ ns,(n.nums.length:Int) ≤ 1048576) (G H gc hc:Nat) (w:World) (h1:∀ i (h:i < ns.length),NodeNew ns[i] G (0 + i * 4) w) (h2:∀ i (h:i < ns.length),NodeNew ns[i] H (0 + i * 4) w) :
  Calls Tryz.prog 69 #[.slice (some ⟨G,0,none⟩) ns.length gc,.slice (some ⟨H,0,none⟩) ns.length hc] w (fun e w' => e = .returned (.bool true) ∧ Below w.heap.size w w'):=by
 go_enter Tryz.func69,Tryz.ntmps69
 go_wp2_with fail
 go_loopw [5] (fun i wr => ∃ (m:Nat),m ≤ ns.length ∧ i = .int .i64 (m:Int) ∧ Below w.heap.size w wr) (fun i _ => ns.length - (intOf i).toNat)
 case atStart => exact ⟨0,by omega,rfl,Below.refl _ _⟩
 case round =>
  obtain ⟨m,hm,rfl,Wb⟩:=hrel
  by_cases hlt:m < ns.length
  ·have hlt':(m:Int) < (ns.length:Int):=by omega
   have h0:(0:Int) ≤ (m:Int):=by omega
   have hA:=(h1 m hlt).keep Wb
   have hB:=(h2 m hlt).keep Wb
   have hnl:=hnum ns[m] (List.getElem_mem _)
   rw [Nat.zero_add] at hA hB
   generalize ns[m] = n at hA hB hnl
   obtain ⟨p,-,hA3,hA4⟩:=hA.nums
   obtain ⟨q,-,hB3,hB4⟩:=hB.nums
   have hkept:Kept [(⟨G,m * 4,none⟩,.int .i64 n.kind),(⟨G,m * 4 + 1,none⟩,.int .i64 n.a),(⟨G,m * 4 + 2,none⟩,.int .i64 n.b),(⟨G,m * 4 + 3,none⟩,.slice (some ⟨p,0,none⟩) n.nums.length n.nums.length),(⟨H,m * 4,none⟩,.int .i64 n.kind),(⟨H,m * 4 + 1,none⟩,.int .i64 n.a),(⟨H,m * 4 + 2,none⟩,.int .i64 n.b),(⟨H,m * 4 + 3,none⟩,.slice (some ⟨q,0,none⟩) n.nums.length n.nums.length)] [] wr:=by
    simp only [Kept,ka,kb,kc,kd,ke,kfa,kga]
    exact ⟨hA.kind,hA.a,hA.b,hA3,hB.kind,hB.a,hB.b,hB3⟩
   have hcall:∀ w',Below wr.heap.size wr w' → Calls Tryz.prog 139 #[.agg #[.int .i64 n.kind,.int .i64 n.a,.int .i64 n.b,.slice (some ⟨p,0,none⟩) n.nums.length n.nums.length],.agg #[.int .i64 n.kind,.int .i64 n.a,.int .i64 n.b,.slice (some ⟨q,0,none⟩) n.nums.length n.nums.length]] w' (fun e w'' => e = .returned (.bool true) ∧ Below w'.heap.size w' w'') :=
    fun w' hb => eq_node n hnl p q _ _ w' (fun i h => by rw [lift hb _ (by rw [hA4 i h];rfl)];exact hA4 i h) (fun i h => by rw [lift hb _ (by rw [hB4 i h];rfl)];exact hB4 i h)
   clear h1 h2 hA hB hA3 hA4 hB3 hB4 hnum
   go_upto_region 6 with fail
   refine Qr.wp_below_all (by kernel_rfl) (by kernel_rfl) PhiE ?_
   repeat (first | (refine Qr.walk_plain rfl fun K hK => ?_;apply Qr.one_det;(focus (intro w' hw';have HK:=keep hkept hw';simp only [Kept,ka,kb,kc,kd,ke,kfa,kga] at HK;go_simp;first | done | rfl));go_simp;refine hK _ ?_;clear hK K) | (refine Qr.walk_plain rfl fun K hK => ?_;apply Qr.one_call;(focus (intro w' hw';go_simp;first | done | exact ⟨rfl,rfl⟩));(focus (intro w' hw'; go_at_call 139;refine (hcall _ hw').mono ?_;rintro _ w2 ⟨rfl,hb1⟩;exact ⟨_,rfl,PhiE.yes _ _,below_step hw' (by assumption),by assumption⟩));intro v hv;cases hv;go_simp;refine hK _ ?_;clear hK K))
   refine Qr.walk_nil fun w6 hw6 => ?_
   go_wp2_with fail
   exact ⟨⟨m + 1,by omega,by simp,below_step Wb hw6⟩,by simp [intOf];omega⟩
  ·obtain rfl:m = ns.length:=by omega
   clear h1 h2 hnum
   go_wp2_with fail
   go_ret
   exact ⟨rfl,Wb⟩

set_option maxRecDepth 100000 in
set_option maxHeartbeats 2000000 in
theorem eq_shape (ns:List PN) (hlen:(ns.length:Int) ≤ 1048576) (hnum:∀ n ∈ ns,(n.nums.length:Int) ≤ 1048576) (G H gc hc:Nat) (w:World) (h1:∀ i (h:i < ns.length),NodeNew ns[i] G (0 + i * 4) w) (h2:∀ i (h:i < ns.length),NodeNew ns[i] H (0 + i * 4) w) :
  Calls Tryz.prog 19 #[.agg #[.slice (some ⟨G,0,none⟩) ns.length gc],.agg #[.slice (some ⟨H,0,none⟩) ns.length hc]] w (fun e w' => e = .returned (.bool true) ∧ Below w.heap.size w w'):=by
 have hcall:=fun w' (hb:Below w.heap.size w w') => eq_nodes ns hlen hnum G H gc hc w' (fun i h => (h1 i h).keep hb) (fun i h => (h2 i h).keep hb)
 clear h1 h2 hnum
 go_enter Tryz.func19,Tryz.ntmps19
 go_wp2_with (go_at_call 69;refine (hcall _ (by repeat' (first | exact Below.refl _ _ | exact Nat.le_refl _ | refine below_drewN ?_ _ | refine Below.alloc ?_ (by simp <;> omega) _ | refine Below.setCell ?_ (by simp <;> omega) _ | refine below_step ?_ (by assumption)))).mono ?_;rintro _ w2 ⟨rfl,hb2⟩)
 go_ret
 exact ⟨rfl,(by repeat' (first | exact Below.refl _ _ | exact Nat.le_refl _ | refine below_drewN ?_ _ | refine Below.alloc ?_ (by simp <;> omega) _ | refine Below.setCell ?_ (by simp <;> omega) _ | refine below_step ?_ (by assumption)))⟩
end Go.Proofs.YtbiacfkiakddiaaGreat

namespace Go.Proofs.YtbiacfkiakddiaaGreat
open Go.RowKit Go.Fl
theorem wid_same {u v a b:Nat} (h1:cn .f64 u = wid (cn .f32 a)) (h2:cn .f64 v = wid (cn .f32 b)) (h:cn .f32 a = cn .f32 b):cn .f64 u = cn .f64 v:=by rw [h1,h2,h]

set_option maxRecDepth 100000 in
set_option maxHeartbeats 1000000 in
theorem eq_vector (a b c a' b' c':Nat) (e1:cn .f32 a = cn .f32 a') (e2:cn .f32 b = cn .f32 b') (e3:cn .f32 c = cn .f32 c') (w:World) :
  Calls Tryz.prog 86 #[V3 a b c,V3 a' b' c'] w (fun e w' => e = .returned (.bool true) ∧ Below w.heap.size w w'):=by
 go_enter Tryz.func86,Tryz.ntmps86
 go_upto_region 1 with fail
 generalize hW:(w.alloc (.cells #[F1 a,F1 b,F1 c] 38)).alloc (.cells #[F1 a',F1 b',F1 c'] 38) = W1 at *
 have W1b:Below w.heap.size w W1:=by subst hW;exact (by repeat' (first | exact Below.refl _ _ | exact Nat.le_refl _ | refine below_drewN ?_ _ | refine Below.alloc ?_ (by simp <;> omega) _ | refine Below.setCell ?_ (by simp <;> omega) _ | refine below_step ?_ (by assumption)))
 have hkept:Kept [(⟨w.heap.size,0,none⟩,F1 a),(⟨w.heap.size,1,none⟩,F1 b),(⟨w.heap.size,2,none⟩,F1 c),(⟨w.heap.size + 1,0,none⟩,F1 a'),(⟨w.heap.size + 1,1,none⟩,F1 b'),(⟨w.heap.size + 1,2,none⟩,F1 c')] [] W1:=by
  subst hW;simp only [Kept,ka,kb,kc,kd,ke,kfa,kga];(first | (go_simp;done) | (simp [World.cell?,World.frozen?,World.alloc,Array.getElem?_push];done))
 clear hW
 have hK:=hkept;simp only [Kept,ka,kb,kc,kd,ke,kfa,kga] at hK
 go_wp2_with (first
  | (refine wp_wid rfl _ _ _ rfl _ rfl ?_ ?_ fitsW_all ?_;exact some_f32;exact Tryz.underlying89;intro r n hr)
  | (go_at_call 47;refine (same_float _ _ (wid_same (by assumption) (by assumption) (by first | exact e1 | exact e2 | exact e3)) _).mono ?_;rintro _ w6 ⟨rfl,hb1⟩;have hkept:=keepT hkept hb1 rfl;clear hK;have hK:=hkept;simp only [Kept,ka,kb,kc,kd,ke,kfa,kga] at hK))
 go_ret
 exact ⟨rfl,(by repeat' (first | exact Below.refl _ _ | exact Nat.le_refl _ | refine Below.drew ?_ | refine below_drewN ?_ _ | refine Below.alloc ?_ (by simp <;> omega) _ | refine Below.setCell ?_ (by simp <;> omega) _ | refine below_step ?_ (by assumption)))⟩

end Go.Proofs.YtbiacfkiakddiaaGreat

namespace Go.Proofs.YtbiacfkiakddiaaGreat
open Go.RowKit Go.Fl
def atS (ns:List PN) (p:V):Nat:=(allS ns (runP ns p ns.length) ns.length).getD (ns.length - 1) 0

set_option maxRecDepth 100000 in
set_option maxHeartbeats 2000000 in
theorem s_at_any (ns:List PN) (hok:OkAll ns) (hl:1 ≤ ns.length ∧ ns.length ≤ 16) (sb so nb no cap x y z:Nat) (w:World) (hsh:ShapeIn ns sb so nb no cap w) :
  Calls Tryz.prog 80 #[.pointer (some ⟨sb,so,none⟩),V3 x y z] w (Ret .f32 (atS ns (cn .f32 x,cn .f32 y,cn .f32 z)) w):=by
 have hsb:sb < w.heap.size:=some_lt (a:=⟨sb,so,none⟩) (by rw [hsh.list];rfl)
 have hr1:(1:Int) ≤ (ns.length:Int):=by omega
 have hr2:(ns.length:Int) ≤ 16:=by omega
 have hr0:(0:Int) ≤ (ns.length:Int) - 1:=by omega
 have hr3:((ns.length:Int) - 1).toNat = ns.length - 1:=by omega
 go_enter Tryz.func80,Tryz.ntmps80
 go_wp2_with fail
 have W1b:Below w.heap.size w (w.alloc (.cells #[F1 x,F1 y,F1 z] 38)):=(by repeat' (first | exact Below.refl _ _ | exact Nat.le_refl _ | refine below_drewN ?_ _ | refine Below.alloc ?_ (by simp <;> omega) _ | refine Below.setCell ?_ (by simp <;> omega) _ | refine below_step ?_ (by assumption)))

 have hsh1:=hsh.keep W1b
 generalize w.alloc (.cells #[F1 x,F1 y,F1 z] 38) = W1 at *
 refine (s_all_any ns hok hl sb so nb no cap x y z W1 hsh1).mono ?_
 rintro _ w2 ⟨v,xs,rfl,hown,hxs,hb2⟩
 have W2b:=below_step W1b hb2
 obtain ⟨g,cap2,rfl,-,-⟩:=hown.form (by omega)
 have hlen:xs.length = ns.length:=by have:=hown.1;simpa using this
 have hc:=hown.cellAt (ns.length - 1) (by omega)
 rw [show (fl xs)[ns.length - 1]? = some (F1 (xs[ns.length - 1]'(by omega))) by simp [fl,List.getElem?_eq_getElem (show ns.length - 1 < xs.length by omega)]] at hc
 have hv:Hid (cn .f32 (xs[ns.length - 1]'(by omega)) = atS ns (cn .f32 x,cn .f32 y,cn .f32 z)):=by
  unfold Hid atS
  rw [← hxs,List.getD_eq_getElem?_getD,List.getElem?_map,List.getElem?_eq_getElem (show ns.length - 1 < xs.length by omega)];rfl
 generalize xs[ns.length - 1]'(by omega) = r at hc hv
 clear hxs hlen hown hb2 hsh1 W1b hsh
 go_wp2_with fail
 go_ret
 exact ⟨r,rfl,hv.out,W2b⟩

end Go.Proofs.YtbiacfkiakddiaaGreat

namespace Go.Proofs.YtbiacfkiakddiaaGreat
open Go.RowKit Go.Fl
def capS (x:Nat):Nat:=if gtk .f32 x (cn .f32 1065353216) then cn .f32 1065353216 else x

inductive PhiAs (ns:List PN) (f:Nat):FuncId → Array Value → Value → Prop
 | scale (x y z a b c:Nat) (h1:cn .f32 a = B .mul (cn .f32 x) (cn .f32 f)) (h2:cn .f32 b = B .mul (cn .f32 y) (cn .f32 f)) (h3:cn .f32 c = B .mul (cn .f32 z) (cn .f32 f)):PhiAs ns f 229 #[V3 x y z,F1 f] (V3 a b c)
 | add (x y z x' y' z' a b c:Nat) (h1:cn .f32 a = B .add (cn .f32 x) (cn .f32 x')) (h2:cn .f32 b = B .add (cn .f32 y) (cn .f32 y')) (h3:cn .f32 c = B .add (cn .f32 z) (cn .f32 z')):PhiAs ns f 228 #[V3 x y z,V3 x' y' z'] (V3 a b c)
 | at_ (sa:Addr) (x y z r:Nat) (h:cn .f32 r = atS ns (cn .f32 x,cn .f32 y,cn .f32 z)):PhiAs ns f 80 #[.pointer (some sa),V3 x y z] (F1 r)

set_option maxRecDepth 100000 in
set_option maxHeartbeats 4000000 in
theorem s_ambient_any (ns:List PN) (hok:OkAll ns) (hl:1 ≤ ns.length ∧ ns.length ≤ 16) (sb so nb no cap x y z nx ny nz st:Nat) (k:Nat) (hk:k ≤ 8) (w:World) (hsh:ShapeIn ns sb so nb no cap w) :
  Calls Tryz.prog 169 #[.pointer (some ⟨sb,so,none⟩),V3 x y z,V3 nx ny nz,F1 st,.int .i64 (k:Int)] w (Ret .f32 (ambAll (atS ns) capS (cn .f32 x,cn .f32 y,cn .f32 z) (cn .f32 nx,cn .f32 ny,cn .f32 nz) (cn .f32 st) k) w):=by
 obtain ⟨R,hR⟩:∃ R,Hid (R = ambGo (atS ns) capS (cn .f32 x,cn .f32 y,cn .f32 z) (cn .f32 nx,cn .f32 ny,cn .f32 nz) (cn .f32 st) k 1 0):=⟨_,rfl⟩
 rw [ambAll,← hR.out]
 have hsb:sb < w.heap.size:=some_lt (a:=⟨sb,so,none⟩) (by rw [hsh.list];rfl)
 have hat:∀ (x y z:Nat) (w:World),ShapeIn ns sb so nb no cap w → Calls Tryz.prog 80 #[.pointer (some ⟨sb,so,none⟩),V3 x y z] w (Ret .f32 (atS ns (cn .f32 x,cn .f32 y,cn .f32 z)) w):=fun x y z w h => s_at_any ns hok hl sb so nb no cap x y z w h
 go_enter Tryz.func169,Tryz.ntmps169
 go_wp2_with fail
 have W1b:Below w.heap.size w ((w.alloc (.cells #[F1 x,F1 y,F1 z] 38)).alloc (.cells #[F1 nx,F1 ny,F1 nz] 38)):=(by repeat' (first | exact Below.refl _ _ | exact Nat.le_refl _ | refine below_drewN ?_ _ | refine Below.alloc ?_ (by simp <;> omega) _ | refine Below.setCell ?_ (by simp <;> omega) _ | refine below_step ?_ (by assumption)))

 have hkept:Kept [(⟨w.heap.size,0,none⟩,F1 x),(⟨w.heap.size,1,none⟩,F1 y),(⟨w.heap.size,2,none⟩,F1 z),(⟨w.heap.size + 1,0,none⟩,F1 nx),(⟨w.heap.size + 1,1,none⟩,F1 ny),(⟨w.heap.size + 1,2,none⟩,F1 nz)] [] ((w.alloc (.cells #[F1 x,F1 y,F1 z] 38)).alloc (.cells #[F1 nx,F1 ny,F1 nz] 38)):=by
  simp only [Kept,ka,kb,kc,kd,ke,kfa,kga]
  simp
 generalize (w.alloc (.cells #[F1 x,F1 y,F1 z] 38)).alloc (.cells #[F1 nx,F1 ny,F1 nz] 38) = W1 at *
 have hsh1:=hsh.keep W1b
 clear hsh hok
 go_loopw [11,12] (fun s i wr => ∃ (j sm:Nat),1 ≤ j ∧ j ≤ k + 1 ∧ i = .int .i64 (j:Int) ∧ s = F1 sm ∧ Hid (R = ambGo (atS ns) capS (cn .f32 x,cn .f32 y,cn .f32 z) (cn .f32 nx,cn .f32 ny,cn .f32 nz) (cn .f32 st) (k + 1 - j) j (cn .f32 sm)) ∧ Below W1.heap.size W1 wr) (fun _ i _ => 10 - (intOf i).toNat)
 case atStart => exact ⟨1,0,by omega,by omega,rfl,rfl,by unfold Hid;rw [hR.out,cn_zero];rfl,Below.refl _ _⟩
 case round =>
  obtain ⟨j,sm,hj1,hjk,rfl,rfl,hgo,Wb⟩:=hrel
  have hkr:=keep hkept Wb
  have hshr:=hsh1.keep Wb
  clear hkept hsh1 hR
  by_cases hle:j ≤ k
  ·have hle':(j:Int) ≤ (k:Int):=by omega
   have hj9:(j:Int) ≤ 8:=by omega
   have hgo2:Hid (R = ambGo (atS ns) capS (cn .f32 x,cn .f32 y,cn .f32 z) (cn .f32 nx,cn .f32 ny,cn .f32 nz) (cn .f32 st) (k - j) (j + 1) (B .add (cn .f32 sm) (capS (ambX (atS ns (addV (cn .f32 x,cn .f32 y,cn .f32 z) (scaleV (cn .f32 nx,cn .f32 ny,cn .f32 nz) (B .mul (kf j) (cn .f32 st))))) (B .mul (kf j) (cn .f32 st)))))):=by
    have:=hgo.out
    rw [show k + 1 - j = (k - j) + 1 by omega,ambGo] at this
    exact this
   clear hgo
   go_upto_region 6 with (refine wp_bin rfl _ _ _ _ _ rfl _ _ _ rfl rfl rfl ?_;intro f1 n1 hf1)
   have hb1:Below wr.heap.size wr (wr.drewN n1):=below_drewN (Below.refl _ _) n1
   have hkept:=keep hkr hb1
   have hsh2:=hshr.keep hb1
   have W2b:=below_step Wb hb1
   clear hkr hshr Wb hb1
   generalize wr.drewN n1 = w1 at *
   refine Qr.wp_below_all (by kernel_rfl) (by kernel_rfl) (PhiAs ns f1) ?_
   repeat (first | (refine Qr.walk_plain rfl fun K hK => ?_;apply Qr.one_det;(focus (intro w' hw';have HK:=keep hkept hw';simp only [Kept,ka,kb,kc,kd,ke,kfa,kga] at HK;go_simp;first | done | rfl));go_simp;refine hK _ ?_;clear hK K) | (refine Qr.walk_plain rfl fun K hK => ?_;apply Qr.one_call;(focus (intro w' hw';go_simp;first | done | exact ⟨rfl,rfl⟩));(focus (intro w' hw'; go_at_call 229;refine (s_scale_any _ _ _ _ _).mono ?_;rintro _ w3 ⟨r1,r2,r3,rfl,hr1,hr2,hr3,hb1⟩ ;exact ⟨_,rfl,by constructor <;> assumption,below_step hw' (by assumption),by assumption⟩));intro v hv;cases hv;go_simp;refine hK _ ?_;clear hK K) | (refine Qr.walk_plain rfl fun K hK => ?_;apply Qr.one_call;(focus (intro w' hw';go_simp;first | done | exact ⟨rfl,rfl⟩));(focus (intro w' hw'; go_at_call 228;refine (s_add_any _ _ _ _ _ _ _).mono ?_;rintro _ w3 ⟨r1,r2,r3,rfl,hr1,hr2,hr3,hb1⟩ ;exact ⟨_,rfl,by constructor <;> assumption,below_step hw' (by assumption),by assumption⟩));intro v hv;cases hv;go_simp;refine hK _ ?_;clear hK K) | (refine Qr.walk_plain rfl fun K hK => ?_;apply Qr.one_call;(focus (intro w' hw';go_simp;first | done | exact ⟨rfl,rfl⟩));(focus (intro w' hw'; go_at_call 80;refine (hat _ _ _ _ (hsh2.keep hw')).mono ?_;rintro _ w3 ⟨r1,rfl,hr1,hb1⟩ ;exact ⟨_,rfl,by constructor <;> assumption,below_step hw' (by assumption),by assumption⟩));intro v hv;cases hv;go_simp;refine hK _ ?_;clear hK K))
   rename_i a1 b1 c1 g1 g2 g3 a2 b2 c2 g4 g5 g6 d1 hd1
   refine Qr.walk_nil fun w5 hw5 => ?_
   have hfin:Hid (R = ambGo (atS ns) capS (cn .f32 x,cn .f32 y,cn .f32 z) (cn .f32 nx,cn .f32 ny,cn .f32 nz) (cn .f32 st) (k - j) (j + 1) (B .add (cn .f32 sm) (capS (ambX (cn .f32 d1) (cn .f32 f1))))):=by
    unfold Hid
    rw [hgo2.out,hd1,g4,g5,g6,g1,g2,g3,hf1]
    rfl
   clear hgo2 hd1 g4 g5 g6 g1 g2 g3 hf1
   have W5b:=below_step W2b hw5
   clear hkept hw5 W2b hsh2
   go_wp2_with ((refine wp_bin rfl _ _ _ _ _ rfl _ _ _ rfl rfl rfl ?_;intro r n hr))
   all_goals
    rename_i rs ms hrs rq mq hrq hb hc
    have e1:B .sub (cn .f32 f1) (cn .f32 d1) = cn .f32 rs:=hrs.symm
    have e2:B .quo (cn .f32 rs) (cn .f32 f1) = cn .f32 rq:=hrq.symm
    have hcc:=(gtk_cn .f32 _ _).trans hc
   ·have hg:gek .f32 (cn .f32 rq) 0 = false:=by unfold gek;rw [ord_r0];simpa using hb
    have hx:capS (ambX (cn .f32 d1) (cn .f32 f1)) = cn .f32 0:=by unfold ambX;rw [e1,e2,hg,← cn_zero];unfold capS;simp only [Bool.false_eq_true,if_false];rw [hcc];rfl
    exact ⟨⟨j + 1,r,by omega,by omega,rfl,rfl,by unfold Hid;rw [hfin.out,hx,hr,Nat.add_sub_add_right],below_drewN W5b _⟩,by simp [intOf];omega⟩
   ·have hg:gek .f32 (cn .f32 rq) 0 = true:=by unfold gek;rw [ord_r0];simpa using hb
    have hx:capS (ambX (cn .f32 d1) (cn .f32 f1)) = cn .f32 1065353216:=by unfold ambX;rw [e1,e2,hg];unfold capS;simp only [if_true];rw [hcc];rfl
    exact ⟨⟨j + 1,r,by omega,by omega,rfl,rfl,by unfold Hid;rw [hfin.out,hx,hr,Nat.add_sub_add_right],below_drewN W5b _⟩,by simp [intOf];omega⟩
   ·have hg:gek .f32 (cn .f32 rq) 0 = true:=by unfold gek;rw [ord_r0];simpa using hb
    have hx:capS (ambX (cn .f32 d1) (cn .f32 f1)) = cn .f32 rq:=by unfold ambX;rw [e1,e2,hg];unfold capS;simp only [if_true];rw [hcc];rfl
    exact ⟨⟨j + 1,r,by omega,by omega,rfl,rfl,by unfold Hid;rw [hfin.out,hx,hr,Nat.add_sub_add_right],below_drewN W5b _⟩,by simp [intOf];omega⟩
  ·have hle':¬ (j:Int) ≤ (k:Int):=by omega
   obtain rfl:j = k + 1:=by omega
   have hRs:Hid (R = cn .f32 sm):=by have:=hgo.out;rwa [Nat.sub_self,ambGo] at this
   clear hgo
   go_wp2_with ((refine wp_bin rfl _ _ _ _ _ rfl _ _ _ rfl rfl rfl ?_;intro r n hr))
   go_ret
   exact ⟨_,rfl,by rw [hRs.out];simp only [*];rfl,below_step W1b (by exact below_drewN Wb _)⟩
end Go.Proofs.YtbiacfkiakddiaaGreat

namespace Go.Proofs.YtbiacfkiakddiaaGreat
open Go.RowKit Go.Fl
/-- Only blocks from lo on,before hi,may have been written;none was made. -/
structure Mid (lo hi:Nat) (w w':World):Prop where
 low:Below lo w w'
 size:w'.heap.size = w.heap.size
 high:∀ b,hi ≤ b → w'.heap[b]? = w.heap[b]?
theorem Mid.refl (lo hi:Nat) (w:World):Mid lo hi w w:=⟨Below.refl _ _,rfl,fun _ _ => rfl⟩
theorem Mid.trans {lo hi:Nat} {a b c:World} (h:Mid lo hi a b) (k:Mid lo hi b c):Mid lo hi a c :=
 ⟨h.low.trans k.low,k.size.trans h.size,fun i hi => (k.high i hi).trans (h.high i hi)⟩
theorem Mid.set {lo hi:Nat} {a w:World} (h:Mid lo hi a w) {p:Addr} (hp:lo ≤ p.block ∧ p.block < hi) (u:Value):Mid lo hi a (w.setCell p u) :=
 ⟨h.low.setCell hp.1 u,by rw [show (w.setCell p u).heap.size = w.heap.size from by simp [World.setCell]];exact h.size,fun b hb => (Below.heap_setCell _ _ _ _ (by omega)).trans (h.high b hb)⟩

end Go.Proofs.YtbiacfkiakddiaaGreat

namespace Go.Proofs.YtbiacfkiakddiaaGreat
open Go.RowKit Go.Fl
/-- Ranges in memory,two cells each. -/
def RgAt (n:Nat) (g:Nat) (A:Nat → Nat × Nat) (w:World):Prop:=∀ i,i < n → w.cell? ⟨g,i * 2,none⟩ = some (F1 (A i).1) ∧ w.cell? ⟨g,i * 2 + 1,none⟩ = some (F1 (A i).2)
theorem RgAt.keep {n g:Nat} {A:Nat → Nat × Nat} {w w':World} (h:RgAt n g A w) (hb:Below w.heap.size w w'):RgAt n g A w':=fun i hi => by
 obtain ⟨h1,h2⟩:=h i hi
 exact ⟨by rw [lift hb _ (by rw [h1];rfl)];exact h1,by rw [lift hb _ (by rw [h2];rfl)];exact h2⟩


end Go.Proofs.YtbiacfkiakddiaaGreat

namespace Go.Proofs.YtbiacfkiakddiaaGreat
open Go.RowKit Go.Fl
/-- A list of ranges of one's own: no block,or a whole block from lo on. -/
def RgOwn (lo n:Nat) (v:Value) (A:Nat → Nat × Nat) (w:World):Prop:=(n = 0 ∧ v = .slice none 0 0) ∨ ∃ g,v = .slice (some ⟨g,0,none⟩) n n ∧ lo ≤ g ∧ w.heap[g]? = some (.cells (vec2 n A) 118 (0,0))
/-- A list of ranges that can be read. -/
def RgRead (n:Nat) (v:Value) (A:Nat → Nat × Nat) (w:World):Prop:=(n = 0 ∧ v = .slice none 0 0) ∨ ∃ g cap,v = .slice (some ⟨g,0,none⟩) n cap ∧ RgAt n g A w
theorem RgOwn.read {lo n:Nat} {v:Value} {A:Nat → Nat × Nat} {w:World} (h:RgOwn lo n v A w):RgRead n v A w:=by
 rcases h with h | ⟨g,rfl,_,h⟩
 ·exact .inl h
 ·exact .inr ⟨g,n,rfl,fun i hi => vec2_at h i hi⟩
theorem RgRead.keep {n:Nat} {v:Value} {A:Nat → Nat × Nat} {w w':World} (h:RgRead n v A w) (hb:Below w.heap.size w w'):RgRead n v A w':=by
 rcases h with h | ⟨g,cap,rfl,h⟩
 ·exact .inl h
 ·exact .inr ⟨g,cap,rfl,h.keep hb⟩
theorem RgOwn.keep {lo n:Nat} {v:Value} {A:Nat → Nat × Nat} {w w':World} (h:RgOwn lo n v A w) (hb:Below w.heap.size w w'):RgOwn lo n v A w':=by
 rcases h with h | ⟨g,rfl,hg,h⟩
 ·exact .inl h
 ·exact .inr ⟨g,rfl,hg,by rw [hb.block g (Array.getElem?_eq_some_iff.1 h).1];exact h⟩

end Go.Proofs.YtbiacfkiakddiaaGreat

namespace Go.Proofs.YtbiacfkiakddiaaGreat
open Go.RowKit Go.Fl
/-- The numbers of a node can be written. -/
def NumFree (G o:Nat) (w:World):Prop:=∃ g n m,G < g ∧ w.cell? ⟨G,o + 3,none⟩ = some (.slice (some ⟨g,0,none⟩) n m) ∧ g < w.heap.size ∧ ∀ j,w.frozen? ⟨g,j,none⟩ = false
theorem froz_keep {w w':World} {g j:Nat} (hg:g < w.heap.size) (hb:Below w.heap.size w w'):w'.frozen? ⟨g,j,none⟩ = w.frozen? ⟨g,j,none⟩:=by
 simp only [World.frozen?]
 rw [hb.block g hg]
theorem NumFree.keep {G o:Nat} {w w':World} (h:NumFree G o w) (hb:Below w.heap.size w w'):NumFree G o w':=by
 obtain ⟨g,n,m,h0,h1,h2,h3⟩:=h
 exact ⟨g,n,m,h0,by rw [lift hb _ (by rw [h1];rfl)];exact h1,Nat.lt_of_lt_of_le h2 hb.size,fun j => by rw [froz_keep h2 hb];exact h3 j⟩
theorem NumFree.set {G o:Nat} {w:World} (h:NumFree G o w) (j:Nat) (hj:j < o ∨ o + 4 ≤ j) (v:Value):NumFree G o (w.setCell ⟨G,j,none⟩ v):=by
 obtain ⟨g,n,m,h0,h1,h2,h3⟩:=h
 refine ⟨g,n,m,h0,?_,by simpa [World.setCell] using h2,fun j => by rw [World.frozen?_setCell];exact h3 j⟩
 exact (World.cell?_setCell_other (w:=w) (a:=⟨G,j,none⟩) (b:=⟨G,o + 3,none⟩) (v:=v) (by intro e;injection e with _ e;omega)).trans h1
end Go.Proofs.YtbiacfkiakddiaaGreat
