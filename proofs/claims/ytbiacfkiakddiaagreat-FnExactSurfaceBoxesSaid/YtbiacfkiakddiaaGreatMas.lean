/-
 Lemmas: Lg,Y3,U2,Y4,V20,V21,Z2.
-/
import Derived.Test.YtbiacfkiakddiaaGreatMae
import Derived.Test.YtbiacfkiakddiaaGreatMaq
import Derived.Test.YtbiacfkiakddiaaGreatMar
set_option linter.unusedVariables false
set_option linter.unusedSimpArgs false
namespace Go.Proofs.YtbiacfkiakddiaaGreat
open Go.RowKit Go.Fl
theorem wid_same {u v a b:Nat} (h1:cn .f64 u = wid (cn .f32 a)) (h2:cn .f64 v = wid (cn .f32 b)) (h:cn .f32 a = cn .f32 b):cn .f64 u = cn .f64 v:=by rw [h1,h2,h]

set_option maxRecDepth 100000 in
set_option maxHeartbeats 1000000 in
theorem eq_vector (a b c a' b' c':Nat) (e1:cn .f32 a = cn .f32 a') (e2:cn .f32 b = cn .f32 b') (e3:cn .f32 c = cn .f32 c') (w:World) :
  Calls Tryz.prog 86 #[V3 a b c,V3 a' b' c'] w (fun e w' => e = .returned (.bool true) ∧ Below w.heap.size w w'):=by
 go_enter Tryz.func86,Tryz.ntmps86
 go_upto_region 1 with fail
 generalize hW:(w.alloc (.cells #[F1 a,F1 b,F1 c] 38)).alloc (.cells #[F1 a',F1 b',F1 c'] 38) = W1 at *
 have W1b:Below w.heap.size w W1:=by subst hW;exact (by repeat' (first | exact Below.refl _ _ | exact Nat.le_refl _ | refine below_drewN ?_ _ | refine Below.alloc ?_ (by simp <;> omega) _ | refine Below.setCell ?_ (by simp <;> omega) _ | refine below_step ?_ (by assumption)))
 have hkept:Kept [(⟨w.heap.size,0,none⟩,F1 a),(⟨w.heap.size,1,none⟩,F1 b),(⟨w.heap.size,2,none⟩,F1 c),(⟨w.heap.size + 1,0,none⟩,F1 a'),(⟨w.heap.size + 1,1,none⟩,F1 b'),(⟨w.heap.size + 1,2,none⟩,F1 c')] [] W1:=by
  subst hW;simp only [Kept,ka,kb,kc,kd,ke,kf,kg];(first | (go_simp;done) | (simp [World.cell?,World.frozen?,World.alloc,Array.getElem?_push];done))
 clear hW
 have hK:=hkept;simp only [Kept,ka,kb,kc,kd,ke,kf,kg] at hK
 go_wp2_with (first
  | (refine wp_wid rfl _ _ _ rfl _ rfl ?_ ?_ fitsW_all ?_;exact some_f32;exact Tryz.underlying89;intro r n hr)
  | (go_at_call 47;refine (same_float _ _ (wid_same (by assumption) (by assumption) (by first | exact e1 | exact e2 | exact e3)) _).mono ?_;rintro _ w6 ⟨rfl,hb1⟩;have hkept:=keepT hkept hb1 rfl;clear hK;have hK:=hkept;simp only [Kept,ka,kb,kc,kd,ke,kf,kg] at hK))
 go_ret
 exact ⟨rfl,(by repeat' (first | exact Below.refl _ _ | exact Nat.le_refl _ | refine Below.drew ?_ | refine below_drewN ?_ _ | refine Below.alloc ?_ (by simp <;> omega) _ | refine Below.setCell ?_ (by simp <;> omega) _ | refine below_step ?_ (by assumption)))⟩

/-- The words of a statement's slots: a shape that is new;a variable that is new;a result. -/
def GdL (ns:List PN) (W:World) (sl:List Tmp) (al:List (Tmp × Array Value × TypeId)) (rs:Tmp) (Res:Value → Prop) (d:Tmp) (v:Value) (w:World):Prop :=
 (d ∈ sl → ∀ G,v = .agg #[.slice (some ⟨G,0,none⟩) ns.length ns.length] → ∀ i (h:i < ns.length),NodeNew ns[i] G (0 + i * 4) w) ∧
 (∀ x ∈ al,x.1 = d → ∀ p,v = .pointer p → ∃ g,p = some ⟨g,0,none⟩ ∧ W.heap.size ≤ g ∧ w.heap[g]? = some (.cells x.2.1 x.2.2 (0,0))) ∧
 (d = rs → v = undef ∨ Res v)

theorem gdl_lasts (ns:List PN) (W:World) (sl:List Tmp) (al:List (Tmp × Array Value × TypeId)) (rs:Tmp) (Res:Value → Prop):Qg.Lasts (GdL ns W sl al rs Res):=by
 refine ⟨fun d v w w' h hb => ⟨fun hd G hv i hi => (h.1 hd G hv i hi).keep hb,fun x hx hd p hp => ?_,h.2.2⟩,fun d w => ⟨fun _ G hv => (by cases hv),fun x _ _ p hp => (by cases hp),fun _ => Or.inl rfl⟩⟩
 obtain ⟨g,h1,h2,h3⟩:=h.2.1 x hx hd p hp
 refine ⟨g,h1,h2,?_⟩
 have hlt:g < w.heap.size:=by
  rcases Nat.lt_or_ge g w.heap.size with h' | h'
  ·exact h'
  ·rw [Array.getElem?_eq_none h'] at h3;cases h3
 rw [hb.block g hlt];exact h3

theorem gdl_start {ns:List PN} {W:World} {sl ad:List Tmp} {al:List (Tmp × Array Value × TypeId)} {rs:Tmp} {Res:Value → Prop} {a:Act} {w:World} (h:∀ d ∈ sl ++ ad ++ [rs],a.tmps.getD d undef = undef) (ha:al.map (·.1) = ad):Qg.E (GdL ns W sl al rs Res) ad a w:=by
 have hnp:∀ p,undef ≠ Value.pointer p:=fun p h => by cases h
 refine ⟨fun d => ⟨fun hd G hv => ?_,fun x hx hd p hp => ?_,fun hd => Or.inl ?_⟩,fun d hd g hv => ?_,fun d hd e he _ g hv => ?_⟩
 ·rw [h d (by simp [hd])] at hv;cases hv
 ·rw [h d (by have:x.1 ∈ al.map (·.1):=List.mem_map.2 ⟨x,hx,rfl⟩;rw [ha,hd] at this;simp [this])] at hp;exact absurd hp (hnp _)
 ·rw [h d (by simp [hd])]
 ·rw [h d (by simp [hd])] at hv;exact absurd hv (hnp _)
 ·rw [h d (by simp [hd])] at hv;exact absurd hv (hnp _)

/-- A slot without a word. -/
theorem gdl_no {ns:List PN} {W:World} {sl:List Tmp} {al:List (Tmp × Array Value × TypeId)} {rs:Tmp} {Res:Value → Prop} {d:Tmp} {v:Value} {w:World} (h1:d ∉ sl) (h2:d ∉ al.map (·.1)) (h3:d ≠ rs):Qg.gd (GdL ns W sl al rs Res) (some d) v w :=
 ⟨fun h => absurd h h1,fun x hx hd => absurd (List.mem_map.2 ⟨x,hx,hd⟩) h2,fun h => absurd h h3⟩
theorem gdl_new {ns:List PN} {W:World} {sl:List Tmp} {al:List (Tmp × Array Value × TypeId)} {rs:Tmp} {Res:Value → Prop} {d:Tmp} {zs:Array Value} {T:TypeId} {w:World} (h1:d ∉ sl) (h2:∀ x ∈ al,x.1 = d → x = (d,zs,T)) (h3:d ≠ rs) (hb:Below W.heap.size W w):Qg.gd (GdL ns W sl al rs Res) (some d) (.pointer (some ⟨w.heap.size,0,none⟩)) (w.alloc (.cells zs T)) :=
 ⟨fun h => absurd h h1,fun x hx hd p hp => by
  have:=h2 x hx hd
  subst this
  injection hp with hp
  exact ⟨w.heap.size,hp.symm,hb.size,by show (w.heap.push _)[w.heap.size]? = _;simp⟩,fun h => absurd h h3⟩

/-- Two new vectors are stored. -/
theorem two3 {w:World} {g k B:Nat} {a b c a' b' c':Value} {T T':TypeId} (hg:w.heap[g]? = some (.cells #[a,b,c] T (0,0))) (hk:w.heap[k]? = some (.cells #[a',b',c'] T' (0,0))) (hne:g ≠ k) (hB:B ≤ g ∧ B ≤ k) (x y z x' y' z':Value) :
  Kept [(⟨g,0,none⟩,x),(⟨g,1,none⟩,y),(⟨g,2,none⟩,z),(⟨k,0,none⟩,x'),(⟨k,1,none⟩,y'),(⟨k,2,none⟩,z')] [] ((((((w.setCell ⟨g,0,none⟩ x).setCell ⟨g,1,none⟩ y).setCell ⟨g,2,none⟩ z).setCell ⟨k,0,none⟩ x').setCell ⟨k,1,none⟩ y').setCell ⟨k,2,none⟩ z') ∧ Below B w ((((((w.setCell ⟨g,0,none⟩ x).setCell ⟨g,1,none⟩ y).setCell ⟨g,2,none⟩ z).setCell ⟨k,0,none⟩ x').setCell ⟨k,1,none⟩ y').setCell ⟨k,2,none⟩ z'):=by
 obtain ⟨h1,h2⟩:=set3 hg x y z
 have hk':(((w.setCell ⟨g,0,none⟩ x).setCell ⟨g,1,none⟩ y).setCell ⟨g,2,none⟩ z).heap[k]? = some (.cells #[a',b',c'] T' (0,0)):=by
  simp only [World.setCell,Array.getElem?_modify,if_neg hne];exact hk
 generalize ((w.setCell ⟨g,0,none⟩ x).setCell ⟨g,1,none⟩ y).setCell ⟨g,2,none⟩ z = w1 at *
 obtain ⟨h3,h4⟩:=set3 hk' x' y' z'
 have h5:(((w1.setCell ⟨k,0,none⟩ x').setCell ⟨k,1,none⟩ y').setCell ⟨k,2,none⟩ z').heap[g]? = some (.cells #[x,y,z] T (0,0)):=by
  simp only [World.setCell,Array.getElem?_modify,if_neg (Ne.symm hne)];exact h1
 obtain ⟨p0,p1,p2,-⟩:=cells3 h5
 obtain ⟨q0,q1,q2,-⟩:=cells3 h3
 refine ⟨?_,(h2.mono hB.1).trans (h4.mono hB.2)⟩
 simp only [Kept,ka,kb,kc,kd,ke,kf,kg]
 simp [p0,p1,p2,q0,q1,q2]
end Go.Proofs.YtbiacfkiakddiaaGreat

namespace Go.Proofs.YtbiacfkiakddiaaGreat
open Go.RowKit Go.Fl
/-- A march lies here. -/
structure MarIn (a b:Nat) (n:Int) (mb mo:Nat) (w:World):Prop where
 kept:Kept [(⟨mb,mo,none⟩,F1 a),(⟨mb,mo + 1,none⟩,F1 b),(⟨mb,mo + 2,none⟩,.int .i64 n)] [] w
theorem MarIn.keep {a b:Nat} {n:Int} {mb mo:Nat} {w w':World} (h:MarIn a b n mb mo w) (hb:Below w.heap.size w w'):MarIn a b n mb mo w':=⟨Go.Fl.keep h.kept hb⟩
theorem MarIn.lt {a b:Nat} {n:Int} {mb mo:Nat} {w:World} (h:MarIn a b n mb mo w):mb < w.heap.size:=some_lt (a:=⟨mb,mo,none⟩) (by rw [h.kept.1 (⟨mb,mo,none⟩,F1 a) (by simp)];rfl)

end Go.Proofs.YtbiacfkiakddiaaGreat

namespace Go.Proofs.YtbiacfkiakddiaaGreat
open Go.RowKit Go.Fl
/-- Ranges in memory,two cells each. -/
def RgAt (n:Nat) (g:Nat) (A:Nat → Nat × Nat) (w:World):Prop:=∀ i,i < n → w.cell? ⟨g,i * 2,none⟩ = some (F1 (A i).1) ∧ w.cell? ⟨g,i * 2 + 1,none⟩ = some (F1 (A i).2)
theorem RgAt.keep {n g:Nat} {A:Nat → Nat × Nat} {w w':World} (h:RgAt n g A w) (hb:Below w.heap.size w w'):RgAt n g A w':=fun i hi => by
 obtain ⟨h1,h2⟩:=h i hi
 exact ⟨by rw [lift hb _ (by rw [h1];rfl)];exact h1,by rw [lift hb _ (by rw [h2];rfl)];exact h2⟩


end Go.Proofs.YtbiacfkiakddiaaGreat

namespace Go.Proofs.YtbiacfkiakddiaaGreat
open Go.RowKit Go.Fl
set_option maxRecDepth 100000 in
set_option maxHeartbeats 1000000 in
theorem vfin_any (x y z:Nat) (w:World) :
  Calls Tryz.prog 132 #[V3 x y z] w (fun e w' => e = .returned (.bool (vfin (cn .f32 x,cn .f32 y,cn .f32 z))) ∧ Below w.heap.size w w'):=by
 have hv:(!([x,y,z]:List Nat).any (fun x => !finP x)) = vfin (cn .f32 x,cn .f32 y,cn .f32 z):=by
  unfold vfin finB
  simp only [List.any_cons,List.any_nil,finP,Bool.or_false,Bool.not_or,Bool.not_not,Bool.and_assoc]
 go_enter Tryz.func132,Tryz.ntmps132
 go_wp2_with (go_at_call 204;refine (finite_any [x,y,z] (some ⟨_,0,none⟩) _ 0 3 _ (fun _ => rfl) ?_ (by simp)).mono ?_;(focus (intro i hi;have h3:i = 0 ∨ i = 1 ∨ i = 2:=(by simp at hi;omega);rcases h3 with rfl | rfl | rfl <;> simp));rintro _ w2 ⟨rfl,hb1⟩;rw [hv])
 go_ret
 exact ⟨rfl,(by repeat' (first | exact Below.refl _ _ | exact Nat.le_refl _ | refine below_drewN ?_ _ | refine Below.alloc ?_ (by simp <;> omega) _ | refine Below.setCell ?_ (by simp <;> omega) _ | refine below_step ?_ (by assumption)))⟩

set_option maxHeartbeats 400000 in
theorem isnan_any (a:Nat) (w:World) :
  Calls Tryz.prog 137 #[F1 a] w (fun e w' => e = .returned (.bool (!(FloatKind.f32.format.order a a == some .eq))) ∧ Below w.heap.size w w'):=by
 go_enter Tryz.func137,Tryz.ntmps137
 go_wp2_with fail
 go_ret
 exact ⟨rfl,(by repeat' (first | exact Below.refl _ _ | exact Nat.le_refl _ | refine below_drewN ?_ _ | refine Below.alloc ?_ (by simp <;> omega) _ | refine Below.setCell ?_ (by simp <;> omega) _ | refine below_step ?_ (by assumption)))⟩

end Go.Proofs.YtbiacfkiakddiaaGreat

namespace Go.Proofs.YtbiacfkiakddiaaGreat
open Go.RowKit Go.Fl
def boxP (l h:Nat × Nat × Nat):Bool:=vfin l && vfin h && lek .f32 l.1 h.1 && lek .f32 l.2.1 h.2.1 && lek .f32 l.2.2 h.2.2
theorem lek_raw (a b:Nat):lek .f32 (cn .f32 a) (cn .f32 b) = (FloatKind.f32.format.order a b == some .lt || FloatKind.f32.format.order a b == some .eq):=by unfold lek;rw [order_cn]
theorem way5 (p q r s t:Bool):p = false ∨ (p = true ∧ q = false) ∨ (p = true ∧ q = true ∧ r = false) ∨ (p = true ∧ q = true ∧ r = true ∧ s = false) ∨ (p = true ∧ q = true ∧ r = true ∧ s = true ∧ t = false) ∨ (p = true ∧ q = true ∧ r = true ∧ s = true ∧ t = true):=by
 cases p <;> cases q <;> cases r <;> cases s <;> cases t <;> simp

set_option maxRecDepth 100000 in
set_option maxHeartbeats 2000000 in
theorem box_any (a b c d e f:Nat) (w:World) :
  Calls Tryz.prog 66 #[.agg #[F1 a,F1 b,F1 c,F1 d,F1 e,F1 f]] w (fun e' w' => e' = .returned (.bool (boxP (cn .f32 a,cn .f32 b,cn .f32 c) (cn .f32 d,cn .f32 e,cn .f32 f))) ∧ Below w.heap.size w w'):=by
 obtain ⟨U,hU⟩:∃ U,Hid (boxP (cn .f32 a,cn .f32 b,cn .f32 c) (cn .f32 d,cn .f32 e,cn .f32 f) = U):=⟨_,rfl⟩
 rw [hU.out]
 have hUo:=hU.out
 unfold boxP at hUo
 simp only [lek_raw] at hUo
 obtain ⟨FA,hFA⟩:∃ FA,Hid (vfin (cn .f32 a,cn .f32 b,cn .f32 c) = FA):=⟨_,rfl⟩
 obtain ⟨FB,hFB⟩:∃ FB,Hid (vfin (cn .f32 d,cn .f32 e,cn .f32 f) = FB):=⟨_,rfl⟩
 rw [hFA.out,hFB.out] at hUo
 clear hU
 rcases way5 FA FB (FloatKind.f32.format.order a d == some .lt || FloatKind.f32.format.order a d == some .eq) (FloatKind.f32.format.order b e == some .lt || FloatKind.f32.format.order b e == some .eq) (FloatKind.f32.format.order c f == some .lt || FloatKind.f32.format.order c f == some .eq) with rfl | ⟨rfl,rfl⟩ | ⟨rfl,rfl,h3⟩ | ⟨rfl,rfl,h3,h4⟩ | ⟨rfl,rfl,h3,h4,h5⟩ | ⟨rfl,rfl,h3,h4,h5⟩
 all_goals
  simp only [*,Bool.and_true,Bool.and_false,Bool.false_and,Bool.true_and] at hUo
  subst hUo
  go_enter Tryz.func66,Tryz.ntmps66
  go_upto_region 1 with fail
  generalize hW:w.alloc (.cells #[F1 a,F1 b,F1 c,F1 d,F1 e,F1 f] 40) = W1 at *
  have W1b:Below w.heap.size w W1:=by subst hW;exact (by repeat' (first | exact Below.refl _ _ | exact Nat.le_refl _ | refine below_drewN ?_ _ | refine Below.alloc ?_ (by simp <;> omega) _ | refine Below.setCell ?_ (by simp <;> omega) _ | refine below_step ?_ (by assumption)))
  have hkept:Kept [(⟨w.heap.size,0,none⟩,F1 a),(⟨w.heap.size,1,none⟩,F1 b),(⟨w.heap.size,2,none⟩,F1 c),(⟨w.heap.size,3,none⟩,F1 d),(⟨w.heap.size,4,none⟩,F1 e),(⟨w.heap.size,5,none⟩,F1 f)] [] W1:=by
   subst hW;simp only [Kept,ka,kb,kc,kd,ke,kf,kg];(first | (go_simp;done) | (simp [World.cell?,World.frozen?,World.alloc,Array.getElem?_push];done))
  clear hW
  have hK:=hkept;simp only [Kept,ka,kb,kc,kd,ke,kf,kg] at hK
  go_wp2_with (first | (go_at_call 132;refine (vfin_any _ _ _ _).mono ?_;rintro _ w2 ⟨rfl,hb1⟩;(first | rw [hFA.out] | rw [hFB.out]);have W1b:=below_step W1b hb1;have hkept:=keepT hkept hb1 rfl;clear hK;have hK:=hkept;simp only [Kept,ka,kb,kc,kd,ke,kf,kg] at hK))
  go_ret
  exact ⟨rfl,W1b⟩
end Go.Proofs.YtbiacfkiakddiaaGreat

namespace Go.Proofs.YtbiacfkiakddiaaGreat
open Go.RowKit Go.Fl
inductive PhiVf:FuncId → Array Value → Value → Prop
 | mk (x y z:Nat):PhiVf 121 #[V3 x y z] (.bool (vfin (cn .f32 x,cn .f32 y,cn .f32 z)))
theorem phivf_is {x y z:Nat} {b:Bool} {v:Value} (h:vfin (cn .f32 x,cn .f32 y,cn .f32 z) = b) (hv:PhiVf 121 #[V3 x y z] v):v = .bool b:=by
 cases hv;rw [h]
def TrD (d:Tmp) (v:Value) (w:World):Prop:=True
theorem trd_lasts:Qg.Lasts TrD:=⟨fun _ _ _ _ _ _ => trivial,fun _ _ => trivial⟩
theorem trd_start {a:Act} {w:World}:Qg.E TrD [] a w:=by
 refine ⟨fun _ => trivial,?_,?_⟩ <;> (intro d hd;cases hd)
theorem trd_gd (d:Option Tmp) (v:Value) (w:World):Qg.gd TrD d v w:=by cases d <;> trivial


set_option maxRecDepth 100000 in
set_option maxHeartbeats 4000000 in
theorem s_box_any (a b c d e f g p:Nat) (w:World) (hN:Kept [(⟨g,p,none⟩,F1 a),(⟨g,p + 1,none⟩,F1 b),(⟨g,p + 2,none⟩,F1 c),(⟨g,p + 3,none⟩,F1 d),(⟨g,p + 4,none⟩,F1 e),(⟨g,p + 5,none⟩,F1 f)] [] w) :
  Calls Tryz.prog 61 #[.pointer (some ⟨g,p,none⟩)] w (fun e' w' => e' = .returned (.bool (boxP (cn .f32 a,cn .f32 b,cn .f32 c) (cn .f32 d,cn .f32 e,cn .f32 f))) ∧ Below w.heap.size w w'):=by
 obtain ⟨U,hU⟩:∃ U,Hid (boxP (cn .f32 a,cn .f32 b,cn .f32 c) (cn .f32 d,cn .f32 e,cn .f32 f) = U):=⟨_,rfl⟩
 rw [hU.out]
 have hUo:=hU.out
 unfold boxP at hUo
 simp only [lek_raw] at hUo
 obtain ⟨FA,hFA⟩:∃ FA,Hid (vfin (cn .f32 a,cn .f32 b,cn .f32 c) = FA):=⟨_,rfl⟩
 obtain ⟨FB,hFB⟩:∃ FB,Hid (vfin (cn .f32 d,cn .f32 e,cn .f32 f) = FB):=⟨_,rfl⟩
 rw [hFA.out,hFB.out] at hUo
 clear hU
 rcases way5 FA FB (FloatKind.f32.format.order a d == some .lt || FloatKind.f32.format.order a d == some .eq) (FloatKind.f32.format.order b e == some .lt || FloatKind.f32.format.order b e == some .eq) (FloatKind.f32.format.order c f == some .lt || FloatKind.f32.format.order c f == some .eq) with rfl | ⟨rfl,rfl⟩ | ⟨rfl,rfl,h3⟩ | ⟨rfl,rfl,h3,h4⟩ | ⟨rfl,rfl,h3,h4,h5⟩ | ⟨rfl,rfl,h3,h4,h5⟩
 all_goals
  simp only [*,Bool.and_true,Bool.and_false,Bool.false_and,Bool.true_and] at hUo
  subst hUo
  go_enter Tryz.func61,Tryz.ntmps61
  have W1b:=Below.refl w.heap.size w
  have hkept:=hN
  have hK:=hkept;simp only [Kept,ka,kb,kc,kd,ke,kf,kg] at hK
  go_upto_region 1 with fail
  refine Qg.wp_gd_all (by kernel_rfl) (by kernel_rfl) PhiVf TrD [] trd_lasts trd_start ?_
  intro hC0
  repeat (first | (refine Qg.walk_step fun K hK => ?_;refine Qg.one_not rfl ?_;go_simp;refine hK _ ?_;clear hK K) | (refine Qg.walk_step fun K hK => ?_;apply Qg.one_det hC0 (by intro d _ hd;cases hd) rfl;(focus (intro w' hw';have HK:=keep hkept hw';simp only [Kept,ka,kb,kc,kd,ke,kf,kg] at HK;go_simp;first | done | rfl));(focus (intro w' hw' hs;exact trd_gd _ _ _));go_simp;refine hK _ ?_;clear hK K) | (refine Qg.walk_step fun K hK => ?_;apply Qg.one_call _ _ hC0 (by intro d _ hd;cases hd) rfl;(focus (intro w' hw';go_simp;first | done | exact ⟨rfl,rfl⟩));(focus (exact ⟨_,.mk _ _ _⟩));(focus (intro w' hw' hs;go_at_call 121;refine (s_vfin_any _ _ _ _).mono ?_;rintro _ w2 ⟨rfl,hb1⟩;exact ⟨_,rfl,.mk _ _ _,trd_gd _ _ _,below_step hw' hb1,hb1⟩));intro v hv;(first | (obtain rfl:=phivf_is hFA.out hv) | (obtain rfl:=phivf_is hFB.out hv));go_simp;refine hK _ ?_;clear hK K))
  refine Qg.walk_nil fun w6 hw6 hE => ?_
  clear hE hC0
  go_wp2_with fail
  go_ret
  exact ⟨rfl,hw6⟩
end Go.Proofs.YtbiacfkiakddiaaGreat

namespace Go.Proofs.YtbiacfkiakddiaaGreat
open Go.RowKit Go.Fl
theorem zero_place {x:Nat} {s:Bool} {e:Int} (h:FloatKind.f32.decode x = .number s 0 e):e = -149:=by
 change Ieee.single.read x = _ at h
 unfold Ieee.Format.read at h
 simp only [bS,iS,sS,lpS] at h
 split at h
 ·injection h with h1 h2 h3
  exact h3.symm
 ·split at h
  ·injection h with h1 h2 h3
   omega
  ·split at h <;> cases h

theorem eq_zero {x:Nat} (h:FloatKind.f32.format.order x 0 = some .eq):∃ s,FloatKind.f32.decode x = .number s 0 (-149):=by
 have h0:FloatKind.f32.decode 0 = .number false 0 (-149):=by decide +kernel
 change (FloatKind.f32.decode x).order (FloatKind.f32.decode 0) = _ at h
 rw [h0] at h
 cases hx:FloatKind.f32.decode x with
 | nan s t => rw [hx] at h;cases h
 | infinity s => rw [hx] at h;cases s <;> cases h
 | number s m e =>
  rw [hx] at h
  have h1:some (compare (Ieee.signed s m (e - min e (-149)).toNat) (Ieee.signed false 0 (-149 - min e (-149)).toNat)) = some Ordering.eq:=h
  have hm:=abs_cmp0 (Option.some.inj h1)
  subst hm
  rw [zero_place hx]
  exact ⟨s,rfl⟩

theorem zw_size {x x':Nat} (hx:Zw .f32 x x'):Zw .f32 (sizeF x) (sizeS x'):=by
 have ho:FloatKind.f32.format.order x 0 = FloatKind.f32.format.order x' 0:=Zw.order hx (Zw.refl _ 0)
 unfold sizeF sizeS
 cases h:FloatKind.f32.format.order x 0 with
 | none =>
  have h1:ltk .f32 x 0 = false:=by unfold ltk;rw [h];rfl
  have h2:lek .f32 x' 0 = false:=by unfold lek;rw [← ho,h];rfl
  rw [h1,h2];exact hx
 | some o =>
  cases o with
  | lt =>
   have h1:ltk .f32 x 0 = true:=by unfold ltk;rw [h];rfl
   have h2:lek .f32 x' 0 = true:=by unfold lek;rw [← ho,h];rfl
   rw [h1,h2]
   exact Zw.trans (sub_neg h1) (Zw.sub (Zw.refl _ _) hx)
  | eq =>
   have h1:ltk .f32 x 0 = false:=by unfold ltk;rw [h];rfl
   have h2:lek .f32 x' 0 = true:=by unfold lek;rw [← ho,h];rfl
   rw [h1,h2]
   obtain ⟨s,hd⟩:=eq_zero h
   have h3:Zw .f32 x 0:=.inr ⟨s,false,-149,hd,by decide +kernel⟩
   have h4:Zw .f32 0 (B .sub 0 0):=by
    have:B .sub 0 0 = 0:=by decide +kernel
    rw [this];exact Zw.refl _ _
   have h5:Zw .f32 x' x:=Zd.symm hx
   exact Zw.trans h3 (Zw.trans h4 (Zw.sub (Zw.refl _ _) (Zd.symm (Zw.trans h5 h3))))
  | gt =>
   have h1:ltk .f32 x 0 = false:=by unfold ltk;rw [h];rfl
   have h2:lek .f32 x' 0 = false:=by unfold lek;rw [← ho,h];rfl
   rw [h1,h2];exact hx

/-- Points that differ at most in signs of zeros. -/
def Zv (p q:Nat × Nat × Nat):Prop:=Zw .f32 p.1 q.1 ∧ Zw .f32 p.2.1 q.2.1 ∧ Zw .f32 p.2.2 q.2.2
theorem Zv.refl (p:Nat × Nat × Nat):Zv p p:=⟨Zw.refl _ _,Zw.refl _ _,Zw.refl _ _⟩

end Go.Proofs.YtbiacfkiakddiaaGreat
