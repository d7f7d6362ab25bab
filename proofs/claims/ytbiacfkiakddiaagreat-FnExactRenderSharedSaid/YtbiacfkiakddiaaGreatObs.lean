/-
 Lemmas: Y15.
-/
import Derived.Test.YtbiacfkiakddiaaGreatObp
set_option linter.unusedVariables false
set_option linter.unusedSimpArgs false
namespace Go.Proofs.YtbiacfkiakddiaaGreat
open Go.RowKit Go.Fl
/-- Where a ray to a light begins. -/
def fromF (p n:Nat × Nat × Nat) (near:Nat):Nat × Nat × Nat:=addV p (scaleV n (B .mul (cn .f32 1073741824) near))
def wayT (p n l:Nat × Nat × Nat) (near:Nat):Nat × Nat × Nat:=lessV l (fromF p n near)
def mostT (p n l:Nat × Nat × Nat) (near most:Nat):Nat:=lesserF most (longF (wayT p n l near).1 (wayT p n l near).2.1 (wayT p n l near).2.2)
/-- Is it dark,and is that told? G is the march. -/
def shadow (G:(Nat × Nat × Nat) → (Nat × Nat × Nat) → Nat → Nat × Nat × Nat) (p n l:Nat × Nat × Nat) (near most:Nat):Bool × Bool :=
 if rayOk (fromF p n near) (wayT p n l near) then (decide ((G (fromF p n near) (wayT p n l near) (mostT p n l near most)).1 = 1),true) else (false,false)
def RetS (r:Bool × Bool) (w:World) (e:Ending) (w':World):Prop:=e = .returned (.tuple #[.bool r.1,.bool r.2]) ∧ Below w.heap.size w w'

theorem kept6 {w:World} {g:Nat} {a b c d e f:Value} {T:TypeId} (h:w.heap[g]? = some (.cells #[a,b,c,d,e,f] T (0,0))) :
  Kept [(⟨g,0,none⟩,a),(⟨g,1,none⟩,b),(⟨g,2,none⟩,c),(⟨g,3,none⟩,d),(⟨g,4,none⟩,e),(⟨g,5,none⟩,f)] [⟨g,0,none⟩,⟨g,1,none⟩,⟨g,2,none⟩,⟨g,3,none⟩,⟨g,4,none⟩,⟨g,5,none⟩] w:=by
 obtain ⟨⟨p0,p1,p2,p3,p4,p5⟩,q0,q1,q2,q3,q4,q5⟩:=cells6 h
 simp only [Kept,ka,kb,kc,kd,ke,kfa,kga]
 simp [p0,p1,p2,p3,p4,p5,q0,q1,q2,q3,q4,q5]

theorem run_hit0 (k s far x y z:Nat) (w:World):(Instr.field 230 (HitV k s far x y z) 0).run Tryz.prog w = .ok (.int .i64 (k:Int)) w:=by kernel_rfl

theorem set6 {w:World} {g B:Nat} {a b c d e f:Value} {T:TypeId} (hg:w.heap[g]? = some (.cells #[a,b,c,d,e,f] T (0,0))) (hB:B ≤ g) (x0 x1 x2 x3 x4 x5:Value) :
  ((((((w.setCell ⟨g,0,none⟩ x0).setCell ⟨g,1,none⟩ x1).setCell ⟨g,2,none⟩ x2).setCell ⟨g,3,none⟩ x3).setCell ⟨g,4,none⟩ x4).setCell ⟨g,5,none⟩ x5).heap[g]? = some (.cells #[x0,x1,x2,x3,x4,x5] T (0,0)) ∧ Below B w ((((((w.setCell ⟨g,0,none⟩ x0).setCell ⟨g,1,none⟩ x1).setCell ⟨g,2,none⟩ x2).setCell ⟨g,3,none⟩ x3).setCell ⟨g,4,none⟩ x4).setCell ⟨g,5,none⟩ x5):=by
 refine ⟨?_,bel6 (Below.refl _ _) hB ..⟩
 simp only [World.setCell,Array.getElem?_modify,if_true,hg,Option.map_some]
 rfl
theorem set6b {w:World} {g B:Nat} {a b c d e f:Value} {T:TypeId} (hg:w.heap[g]? = some (.cells #[a,b,c,d,e,f] T (0,0))) (hB:B ≤ g) (x3 x4 x5:Value) :
  (((w.setCell ⟨g,3,none⟩ x3).setCell ⟨g,4,none⟩ x4).setCell ⟨g,5,none⟩ x5).heap[g]? = some (.cells #[a,b,c,x3,x4,x5] T (0,0)) ∧ Below B w (((w.setCell ⟨g,3,none⟩ x3).setCell ⟨g,4,none⟩ x4).setCell ⟨g,5,none⟩ x5):=by
 refine ⟨?_,(((Below.refl B w).setCell (p:=⟨g,3,none⟩) hB _).setCell (p:=⟨g,4,none⟩) hB _).setCell (p:=⟨g,5,none⟩) hB _⟩
 simp only [World.setCell,Array.getElem?_modify,if_true,hg,Option.map_some]
 rfl

set_option maxRecDepth 100000 in
set_option maxHeartbeats 4000000 in
theorem inshadow_any (ns:List PN) (hnum:∀ n ∈ ns,n.nums.length < 10000000) (nb no cap x y z nx ny nz lx ly lz near most:Nat) (n:Int) (bp:Option Addr) (w:World) (hbp:ns ≠ [] → bp = some ⟨nb,no,none⟩) (hsh:∀ i (h:i < ns.length),NodeIn ns[i] nb (no + i * 4) w) (hlen:ns.length < 10000000) :
  Calls Tryz.prog 179 #[.agg #[.slice bp ns.length cap],V3 x y z,V3 nx ny nz,V3 lx ly lz,.agg #[F1 near,F1 most,.int .i64 n]] w
   (RetS (if validF ns && marOk (cn .f32 near) (cn .f32 most) n then shadow (fun F T mo => marchGo (topF ns) F T (slopeF ns) (cn .f32 near) mo n.toNat 1 0) (cn .f32 x,cn .f32 y,cn .f32 z) (cn .f32 nx,cn .f32 ny,cn .f32 nz) (cn .f32 lx,cn .f32 ly,cn .f32 lz) (cn .f32 near) (cn .f32 most) else (false,false)) w):=by
 have hva:∀ w',Below w.heap.size w w' → Calls Tryz.prog 65 #[.agg #[.slice bp ns.length cap]] w' (fun e w'' => e = .returned (.bool (validF ns)) ∧ Below w'.heap.size w' w''):=fun w' hb => valid_any ns hnum nb no cap bp w' hbp (fun i h => (hsh i h).keep hb) hlen
 have hma:∀ w',Calls Tryz.prog 171 #[.agg #[F1 near,F1 most,.int .i64 n]] w' (fun e' w'' => e' = .returned (.bool (marOk (cn .f32 near) (cn .f32 most) n)) ∧ Below w'.heap.size w' w''):=fun w' => mar_any near most n w'
 have hHs:=Lib.hid hsh
 have hHb:=Lib.hid hbp
 clear hnum hsh hbp
 cases h1:validF ns
 ·rw [h1] at hva
  simp only [Bool.false_and,Bool.false_eq_true,if_false]
  clear hma
  go_enter Tryz.func179,Tryz.ntmps179
  go_wp2_with fail
  generalize hW:((((w.alloc (.cells #[.slice bp ns.length cap] 36)).alloc (.cells #[F1 x,F1 y,F1 z] 38)).alloc (.cells #[F1 nx,F1 ny,F1 nz] 38)).alloc (.cells #[F1 lx,F1 ly,F1 lz] 38)).alloc (.cells #[F1 near,F1 most,.int .i64 n] 84) = W1 at *
  have W1b:Below w.heap.size w W1:=by subst hW;exact (by repeat' (first | exact Below.refl _ _ | exact Nat.le_refl _ | refine below_drewN ?_ _ | refine Below.alloc ?_ (by simp <;> omega) _ | refine Below.setCell ?_ (by simp <;> omega) _ | refine below_step ?_ (by assumption)))
  have hkept:Kept [(⟨w.heap.size,0,none⟩,.slice bp ns.length cap),(⟨w.heap.size + 1,0,none⟩,F1 x),(⟨w.heap.size + 1,1,none⟩,F1 y),(⟨w.heap.size + 1,2,none⟩,F1 z),(⟨w.heap.size + 1 + 1,0,none⟩,F1 nx),(⟨w.heap.size + 1 + 1,1,none⟩,F1 ny),(⟨w.heap.size + 1 + 1,2,none⟩,F1 nz),(⟨w.heap.size + 1 + 1 + 1,0,none⟩,F1 lx),(⟨w.heap.size + 1 + 1 + 1,1,none⟩,F1 ly),(⟨w.heap.size + 1 + 1 + 1,2,none⟩,F1 lz),(⟨w.heap.size + 1 + 1 + 1 + 1,0,none⟩,F1 near),(⟨w.heap.size + 1 + 1 + 1 + 1,1,none⟩,F1 most),(⟨w.heap.size + 1 + 1 + 1 + 1,2,none⟩,.int .i64 n)] [⟨w.heap.size + 1 + 1 + 1 + 1,0,none⟩,⟨w.heap.size + 1 + 1 + 1 + 1,1,none⟩,⟨w.heap.size + 1 + 1 + 1 + 1,2,none⟩] W1:=by
   subst hW;simp only [Kept,ka,kb,kc,kd,ke,kfa,kga];(first | (go_simp;done) | (simp [World.cell?,World.frozen?,World.alloc,Array.getElem?_push];done))
  clear hW
  have hK:=hkept;simp only [Kept,ka,kb,kc,kd,ke,kfa,kga] at hK
  refine (hva _ W1b).mono ?_
  rintro _ w2 ⟨rfl,hb1⟩
  have W2b:=below_step W1b hb1
  have hkept:=keepT hkept hb1 rfl;clear hK;have hK:=hkept;simp only [Kept,ka,kb,kc,kd,ke,kfa,kga] at hK
  go_wp2_with fail
  go_ret2
  exact ⟨rfl,W2b⟩
 cases h2:marOk (cn .f32 near) (cn .f32 most) n
 ·rw [h1] at hva
  rw [h2] at hma
  simp only [Bool.and_false,Bool.false_eq_true,if_false]
  go_enter Tryz.func179,Tryz.ntmps179
  go_wp2_with fail
  generalize hW:((((w.alloc (.cells #[.slice bp ns.length cap] 36)).alloc (.cells #[F1 x,F1 y,F1 z] 38)).alloc (.cells #[F1 nx,F1 ny,F1 nz] 38)).alloc (.cells #[F1 lx,F1 ly,F1 lz] 38)).alloc (.cells #[F1 near,F1 most,.int .i64 n] 84) = W1 at *
  have W1b:Below w.heap.size w W1:=by subst hW;exact (by repeat' (first | exact Below.refl _ _ | exact Nat.le_refl _ | refine below_drewN ?_ _ | refine Below.alloc ?_ (by simp <;> omega) _ | refine Below.setCell ?_ (by simp <;> omega) _ | refine below_step ?_ (by assumption)))
  have hkept:Kept [(⟨w.heap.size,0,none⟩,.slice bp ns.length cap),(⟨w.heap.size + 1,0,none⟩,F1 x),(⟨w.heap.size + 1,1,none⟩,F1 y),(⟨w.heap.size + 1,2,none⟩,F1 z),(⟨w.heap.size + 1 + 1,0,none⟩,F1 nx),(⟨w.heap.size + 1 + 1,1,none⟩,F1 ny),(⟨w.heap.size + 1 + 1,2,none⟩,F1 nz),(⟨w.heap.size + 1 + 1 + 1,0,none⟩,F1 lx),(⟨w.heap.size + 1 + 1 + 1,1,none⟩,F1 ly),(⟨w.heap.size + 1 + 1 + 1,2,none⟩,F1 lz),(⟨w.heap.size + 1 + 1 + 1 + 1,0,none⟩,F1 near),(⟨w.heap.size + 1 + 1 + 1 + 1,1,none⟩,F1 most),(⟨w.heap.size + 1 + 1 + 1 + 1,2,none⟩,.int .i64 n)] [⟨w.heap.size + 1 + 1 + 1 + 1,0,none⟩,⟨w.heap.size + 1 + 1 + 1 + 1,1,none⟩,⟨w.heap.size + 1 + 1 + 1 + 1,2,none⟩] W1:=by
   subst hW;simp only [Kept,ka,kb,kc,kd,ke,kfa,kga];(first | (go_simp;done) | (simp [World.cell?,World.frozen?,World.alloc,Array.getElem?_push];done))
  clear hW
  have hK:=hkept;simp only [Kept,ka,kb,kc,kd,ke,kfa,kga] at hK
  refine (hva _ W1b).mono ?_
  rintro _ w2 ⟨rfl,hb1⟩
  have W2b:=below_step W1b hb1
  have hkept:=keepT hkept hb1 rfl;clear hK;have hK:=hkept;simp only [Kept,ka,kb,kc,kd,ke,kfa,kga] at hK
  go_wp2_with (go_at_call 171;refine (hma _).mono ?_;rintro _ w3 ⟨rfl,hb1⟩;have hkept:=keepT hkept hb1 rfl;clear hK;have hK:=hkept;simp only [Kept,ka,kb,kc,kd,ke,kfa,kga] at hK)
  go_ret2
  exact ⟨rfl,below_step W2b hb1⟩
 rw [h1] at hva
 rw [h2] at hma
 simp only [Bool.and_true,if_true]
 obtain ⟨hl,hok⟩:=valid_ok h1
 have hne:ns ≠ []:=by intro h;rw [h] at hl;simp at hl
 have hb:=hHb.out hne
 subst hb
 have hin:1 ≤ n ∧ n ≤ 64:=by
  unfold marOk at h2
  simp only [Bool.and_eq_true,decide_eq_true_eq] at h2
  exact h2.2
 obtain ⟨m,rfl⟩:=Int.eq_ofNat_of_zero_le (show 0 ≤ n by omega)
 rw [Int.toNat_natCast]
 have hmc:∀ (a b c d e f mo:Nat) w',Below w.heap.size w w' → w'.cell? ⟨w.heap.size,0,none⟩ = some (.slice (some ⟨nb,no,none⟩) ns.length cap) → Calls Tryz.prog 174 #[.pointer (some ⟨w.heap.size,0,none⟩),.agg #[F1 a,F1 b,F1 c,F1 d,F1 e,F1 f],.agg #[F1 near,F1 mo,.int .i64 (m:Int)]] w' (RetHit (cn .f32 a,cn .f32 b,cn .f32 c) (cn .f32 d,cn .f32 e,cn .f32 f) (marchGo (topF ns) (cn .f32 a,cn .f32 b,cn .f32 c) (cn .f32 d,cn .f32 e,cn .f32 f) (slopeF ns) (cn .f32 near) (cn .f32 mo) m 1 0) w'):=fun a b c d e f mo w' hb hc => march_any ns hok hl w.heap.size 0 nb no cap a b c d e f near mo m (by omega) w' ⟨hc,fun i h => (hHs.out i h).keep hb⟩
 generalize hGo:(fun F T mo => marchGo (topF ns) F T (slopeF ns) (cn .f32 near) mo m 1 0) = Go at *
 have hgo2:∀ F T mo,marchGo (topF ns) F T (slopeF ns) (cn .f32 near) mo m 1 0 = Go F T mo:=fun F T mo => by rw [← hGo]
 simp only [hgo2] at hmc
 clear hgo2 hGo h1 h2 hok
 obtain ⟨FF,hFF⟩:∃ FF,Hid (FF = fromF (cn .f32 x,cn .f32 y,cn .f32 z) (cn .f32 nx,cn .f32 ny,cn .f32 nz) (cn .f32 near)):=⟨_,rfl⟩
 obtain ⟨TT,hTT⟩:∃ TT,Hid (TT = wayT (cn .f32 x,cn .f32 y,cn .f32 z) (cn .f32 nx,cn .f32 ny,cn .f32 nz) (cn .f32 lx,cn .f32 ly,cn .f32 lz) (cn .f32 near)):=⟨_,rfl⟩
 obtain ⟨RR,hRR⟩:∃ RR,Hid (shadow Go (cn .f32 x,cn .f32 y,cn .f32 z) (cn .f32 nx,cn .f32 ny,cn .f32 nz) (cn .f32 lx,cn .f32 ly,cn .f32 lz) (cn .f32 near) (cn .f32 most) = RR):=⟨_,rfl⟩
 rw [hRR.out]
 go_enter Tryz.func179,Tryz.ntmps179
 go_wp2_with fail
 generalize hW:((((w.alloc (.cells #[.slice (some ⟨nb,no,none⟩) ns.length cap] 36)).alloc (.cells #[F1 x,F1 y,F1 z] 38)).alloc (.cells #[F1 nx,F1 ny,F1 nz] 38)).alloc (.cells #[F1 lx,F1 ly,F1 lz] 38)).alloc (.cells #[F1 near,F1 most,.int .i64 (m:Int)] 84) = W1 at *
 have W1b:Below w.heap.size w W1:=by subst hW;exact (by repeat' (first | exact Below.refl _ _ | exact Nat.le_refl _ | refine below_drewN ?_ _ | refine Below.alloc ?_ (by simp <;> omega) _ | refine Below.setCell ?_ (by simp <;> omega) _ | refine below_step ?_ (by assumption)))
 have hkept:Kept [(⟨w.heap.size,0,none⟩,.slice (some ⟨nb,no,none⟩) ns.length cap),(⟨w.heap.size + 1,0,none⟩,F1 x),(⟨w.heap.size + 1,1,none⟩,F1 y),(⟨w.heap.size + 1,2,none⟩,F1 z),(⟨w.heap.size + 1 + 1,0,none⟩,F1 nx),(⟨w.heap.size + 1 + 1,1,none⟩,F1 ny),(⟨w.heap.size + 1 + 1,2,none⟩,F1 nz),(⟨w.heap.size + 1 + 1 + 1,0,none⟩,F1 lx),(⟨w.heap.size + 1 + 1 + 1,1,none⟩,F1 ly),(⟨w.heap.size + 1 + 1 + 1,2,none⟩,F1 lz),(⟨w.heap.size + 1 + 1 + 1 + 1,0,none⟩,F1 near),(⟨w.heap.size + 1 + 1 + 1 + 1,1,none⟩,F1 most),(⟨w.heap.size + 1 + 1 + 1 + 1,2,none⟩,.int .i64 (m:Int))] [⟨w.heap.size + 1 + 1 + 1 + 1,0,none⟩,⟨w.heap.size + 1 + 1 + 1 + 1,1,none⟩,⟨w.heap.size + 1 + 1 + 1 + 1,2,none⟩] W1:=by
  subst hW;simp only [Kept,ka,kb,kc,kd,ke,kfa,kga];(first | (go_simp;done) | (simp [World.cell?,World.frozen?,World.alloc,Array.getElem?_push];done))
 clear hW
 have hK:=hkept;simp only [Kept,ka,kb,kc,kd,ke,kfa,kga] at hK
 refine (hva _ W1b).mono ?_
 rintro _ w2 ⟨rfl,hb1⟩
 have W2b:=below_step W1b hb1
 have hkept:=keepT hkept hb1 rfl;clear hK;have hK:=hkept;simp only [Kept,ka,kb,kc,kd,ke,kfa,kga] at hK
 go_upto_region 3 with (go_at_call 171;refine (hma _).mono ?_;rintro _ w3 ⟨rfl,hb1⟩;have W3b:=below_step W2b hb1;have hkept:=keepT hkept hb1 rfl;clear hK;have hK:=hkept;simp only [Kept,ka,kb,kc,kd,ke,kfa,kga] at hK)
 clear hK hva hma W1b W2b hb1
 have hkept3:=hkept
 refine Qr.wp_made 9 8 12 #[F1 0,F1 0,F1 0,F1 0,F1 0,F1 0] 225 (by kernel_rfl) (by kernel_rfl) (PhiO 0 233 232) rfl (by kernel_rfl) ⟨_,rfl,rfl,fun a w => by go_simp⟩ (by kernel_rfl) ?_
 repeat (first
  | (refine Qr.walk_plain rfl fun K hK => ?_;refine one_bin _ _ _ _ _ rfl _ _ _ rfl rfl rfl (fun r hr => ?_);go_simp;refine hK _ ?_;clear hK K)
  | (refine Qr.walk_plain rfl fun K hK => ?_;refine Qr.one_rel (fun v => ∃ g,v = .pointer (some ⟨g,0,none⟩)) (fun w' hw' => ⟨.pointer (some ⟨w'.heap.size,0,none⟩),_,by go_simp;rfl,⟨_,rfl⟩,hw'.alloc hw'.size _,(Below.refl _ _).alloc (Nat.le_refl _) _⟩) (fun v hv => ?_);obtain ⟨g,rfl⟩:=hv;go_simp;refine hK _ ?_;clear hK K)
  | (refine Qr.walk_plain rfl fun K hK => ?_;apply Qr.one_det;(focus (intro w' hw';have HK:=keep hkept hw';simp only [Kept,ka,kb,kc,kd,ke,kfa,kga] at HK;go_simp;first | done | rfl));go_simp;refine hK _ ?_;clear hK K)
  | (refine Qr.walk_plain rfl fun K hK => ?_;apply Qr.one_call;(focus (intro w' hw';go_simp;first | done | exact ⟨rfl,rfl⟩));(focus (intro w' hw'; go_at_call 233;refine (scale_any _ _ _ _ _).mono ?_;rintro _ w3 ⟨r1,r2,r3,rfl,hr1,hr2,hr3,hb1⟩;exact ⟨_,rfl,PhiO.scale _ _ _ _ _ _ _ hr1 hr2 hr3,below_step hw' (by assumption),by assumption⟩));intro v hv;cases hv;go_simp;refine hK _ ?_;clear hK K)
  | (refine Qr.walk_plain rfl fun K hK => ?_;apply Qr.one_call;(focus (intro w' hw';go_simp;first | done | exact ⟨rfl,rfl⟩));(focus (intro w' hw'; go_at_call 232;refine (add_any _ _ _ _ _ _ _).mono ?_;rintro _ w3 ⟨r1,r2,r3,rfl,hr1,hr2,hr3,hb1⟩;exact ⟨_,rfl,PhiO.add _ _ _ _ _ _ _ _ _ hr1 hr2 hr3,below_step hw' (by assumption),by assumption⟩));intro v hv;cases hv;go_simp;refine hK _ ?_;clear hK K))
 rename_i a1 b1 c1 g1 g2 g3 a2 b2 c2 g4 g5 g6
 refine Qr.walk_nil fun w4 hw4 hmade => ?_
 obtain ⟨g3',hg3,hgw,hgc⟩:=hmade _ rfl
 injection hg3 with hg3
 injection hg3 with hg3
 subst hg3
 have hF:Hid ((cn .f32 a2,cn .f32 b2,cn .f32 c2) = FF):=by
  unfold Hid
  rw [hFF.out,fromF,addV,scaleV,g4,g5,g6,g1,g2,g3,hr]
 clear g1 g2 g3 g4 g5 g6 hr hmade
 obtain ⟨⟨p0,p1,p2,p3,p4,p5⟩,q0,q1,q2,q3,q4,q5⟩:=cells6 hgc
 go_upto_region 4 with fail
 obtain ⟨h6,hb6⟩:=set6 hgc (Nat.le_refl g) (F1 a2) (F1 b2) (F1 c2) (F1 0) (F1 0) (F1 0)
 clear p0 p1 p2 p3 p4 p5 q0 q1 q2 q3 q4 q5 hgc
 have hw5:=hw4.trans (hb6.mono hgw)
 clear hw4 hb6
 generalize (((((w4.setCell ⟨g,0,none⟩ (F1 a2)).setCell ⟨g,1,none⟩ (F1 b2)).setCell ⟨g,2,none⟩ (F1 c2)).setCell ⟨g,3,none⟩ (F1 0)).setCell ⟨g,4,none⟩ (F1 0)).setCell ⟨g,5,none⟩ (F1 0) = w5 at *
 have hkept:=keep hkept hw5
 have W5b:=below_step W3b hw5
 have hw53:=hw5
 clear hw5
 obtain ⟨⟨p0,p1,p2,p3,p4,p5⟩,q0,q1,q2,q3,q4,q5⟩:=cells6 h6
 have hs5:g < w5.heap.size:=(Array.getElem?_eq_some_iff.1 h6).1
 have hg3:w.heap.size ≤ g:=Nat.le_trans W3b.size hgw
 have hg5:w.heap.size + 1 + 1 + 1 + 1 < w3.heap.size:=some_lt (a:=⟨w.heap.size + 1 + 1 + 1 + 1,0,none⟩) (by have hK:=hkept3;simp only [Kept,ka,kb,kc,kd,ke,kfa,kga] at hK;simp [hK])
 have hgn:g ≠ w.heap.size + 1 + 1 + 1 + 1:=by omega
 have hK:=hkept;simp only [Kept,ka,kb,kc,kd,ke,kfa,kga] at hK
 go_upto_region 5 with (go_at_call 178;refine (less_any _ _ _ _ _ _ _).mono ?_;rintro _ w6 ⟨t0,t1,t2,rfl,ht0,ht1,ht2,hb1⟩;have HK6:=lift hb1;have HF6:=liftF hb1)
 have h6':w6.heap[g]? = some (.cells #[F1 a2,F1 b2,F1 c2,F1 0,F1 0,F1 0] 225 (0,0)):=by rw [hb1.block g hs5];exact h6
 obtain ⟨h7,hb7⟩:=set6b h6' (Nat.le_refl g) (F1 t0) (F1 t1) (F1 t2)
 have hkept:=keep hkept hb1
 have hT:Hid ((cn .f32 t0,cn .f32 t1,cn .f32 t2) = TT):=by
  unfold Hid
  rw [hTT.out,wayT,← hFF.out,← hF.out,lessV,ht0,ht1,ht2]
 have W6b:=below_step W5b hb1
 clear h6 h6' p0 p1 p2 p3 p4 p5 q0 q1 q2 q3 q4 q5 HK6 HF6 hK ht0 ht1 ht2
 have W7b:=W6b.trans (hb7.mono hg3)
 have hkW:=keep hkept3 ((show Below w3.heap.size w3 w6 from (show Below w3.heap.size w3 w5 from hw53).trans (hb1.mono (by omega))).trans (hb7.mono hgw))
 clear hkept hkept3
 have hkept:=kept_app hkW (kept6 h7)
 clear hkW hb7 hb1 W6b W5b hs5
 generalize ((w6.setCell ⟨g,3,none⟩ (F1 t0)).setCell ⟨g,4,none⟩ (F1 t1)).setCell ⟨g,5,none⟩ (F1 t2) = w7 at *
 have hSh:Hid (RR = if rayOk FF TT then (decide ((Go FF TT (lesserF (cn .f32 most) (longF TT.1 TT.2.1 TT.2.2))).1 = 1),true) else (false,false)):=by unfold Hid;rw [← hRR.out,shadow,mostT,← hFF.out,← hTT.out]
 clear hRR hFF hTT
 rw [← hF.out,← hT.out] at hSh
 clear hF hT h7
 have hK:=hkept;simp only [Kept,ka,kb,kc,kd,ke,kfa,kga] at hK
 cases hray:rayOk (cn .f32 a2,cn .f32 b2,cn .f32 c2) (cn .f32 t0,cn .f32 t1,cn .f32 t2)
 ·have hres:=hSh.out
  rw [hray] at hres
  simp only [Bool.false_eq_true,if_false] at hres
  go_wp2_with (go_at_call 173;refine (ray_any _ _ _ _ _ _ _).mono ?_;rintro _ w8 ⟨rfl,hb1⟩;have hkept:=keepT hkept hb1 rfl;clear hK;have hK:=hkept;simp only [Kept,ka,kb,kc,kd,ke,kfa,kga] at hK;rw [hray])
  go_ret2
  exact ⟨by rw [hres];rfl,below_step W7b hb1⟩
 ·have hres:=hSh.out
  rw [hray] at hres
  simp only [if_true] at hres
  go_upto_region 7 with (go_at_call 173;refine (ray_any _ _ _ _ _ _ _).mono ?_;rintro _ w8 ⟨rfl,hb1⟩;have W8b:=below_step W7b hb1;have hkept:=keepT hkept hb1 rfl;clear hK;have hK:=hkept;simp only [Kept,ka,kb,kc,kd,ke,kfa,kga] at hK;rw [hray])
  clear hK hb1 W7b
  refine Qr.wp_below 7 (by kernel_rfl) (by kernel_rfl) PhiF ?_
  repeat (first
   | (refine Qr.walk_plain rfl fun K hK => ?_;apply Qr.one_det;(focus (intro w' hw';have HK:=keep hkept hw';simp only [Kept,ka,kb,kc,kd,ke,kfa,kga] at HK;go_simp;first | done | rfl));go_simp;refine hK _ ?_;clear hK K)
   | (refine Qr.walk_plain rfl fun K hK => ?_;apply Qr.one_call;(focus (intro w' hw';go_simp;first | done | exact ⟨rfl,rfl⟩));(focus (intro w' hw'; go_at_call 250;refine (long_any _ _ _ _).mono ?_;rintro _ w2 ⟨r1,rfl,hr1,hb1⟩ ;exact ⟨_,rfl,by constructor <;> assumption,below_step hw' (by assumption),by assumption⟩));intro v hv;cases hv;go_simp;refine hK _ ?_;clear hK K)
   | (refine Qr.walk_plain rfl fun K hK => ?_;apply Qr.one_call;(focus (intro w' hw';go_simp;first | done | exact ⟨rfl,rfl⟩));(focus (intro w' hw'; go_at_call 221;refine (lesser_any _ _ _).mono ?_;rintro _ w2 ⟨r1,rfl,hr1,hb1⟩ ;exact ⟨_,rfl,by constructor <;> assumption,below_step hw' (by assumption),by assumption⟩));intro v hv;cases hv;go_simp;refine hK _ ?_;clear hK K))
  rename_i lo hlo mo hmo
  refine Qr.walk_nil fun w9 hw9 => ?_
  have hkept:=keep hkept hw9
  have W9b:=below_step W8b hw9
  have hres:Hid (RR = (decide ((Go (cn .f32 a2,cn .f32 b2,cn .f32 c2) (cn .f32 t0,cn .f32 t1,cn .f32 t2) (cn .f32 mo)).1 = 1),true)):=by unfold Hid;rw [hres,hmo,hlo]
  clear hSh hw9 W8b hmo hlo
  have hK:=hkept;simp only [Kept,ka,kb,kc,kd,ke,kfa,kga] at hK
  go_upto_region 8 with fail
  have W10b:=W9b.setCell (p:=⟨w.heap.size + 1 + 1 + 1 + 1,1,none⟩) (by show w.heap.size ≤ w.heap.size + 1 + 1 + 1 + 1;omega) (F1 mo)
  have hk10:((cn .f32 a2,cn .f32 b2,cn .f32 c2),(cn .f32 t0,cn .f32 t1,cn .f32 t2)) = ((cn .f32 a2,cn .f32 b2,cn .f32 c2),(cn .f32 t0,cn .f32 t1,cn .f32 t2)):=rfl
  generalize hh:Go (cn .f32 a2,cn .f32 b2,cn .f32 c2) (cn .f32 t0,cn .f32 t1,cn .f32 t2) (cn .f32 mo) = hit at hres
  have hm2:=hmc a2 b2 c2 t0 t1 t2 mo
  rw [hh] at hm2
  clear hmc hk10 hh
  go_wp2_with (go_at_call 174;refine (hm2 _ W10b (by simp [hK,World.cell?_setCell_other])).mono ?_;rintro _ w10 ⟨far,px,py,pz,rfl,_,_,hb1⟩;have hfld:=run_hit0 hit.1 hit.2.1 far px py pz w10)
  go_ret2
  exact ⟨by rw [hres.out];exact congrArg (fun b => Ending.returned (.tuple #[.bool b,.bool true])) (decide_eq_decide.2 (by omega)),below_step W10b hb1⟩
end Go.Proofs.YtbiacfkiakddiaaGreat
