/-
 Lemmas: W13,C1,L1,S7,D24.
-/
import Derived.Test.YtbiacfkiakddiaaGreatOan
import Derived.Test.YtbiacfkiakddiaaGreatObd
import Derived.Deep.Cut
import Derived.Laws.IdiomStrings
set_option linter.unusedVariables false
set_option linter.unusedSimpArgs false
namespace Go.Proofs.YtbiacfkiakddiaaGreat
open Go.RowKit Go.Fl
theorem point_all {n:PN} {b o:Nat} {w:World} (hn:NodeIn n b o w) (hok:n.ok) (hc:(ruleF n.kind).2.1 = 1) (x y z:Nat) :
  Calls Tryz.prog 235 #[.pointer (some ⟨b,o,none⟩),V3 x y z] w (RetV (pointF n (cn .f32 x,cn .f32 y,cn .f32 z)).1 (pointF n (cn .f32 x,cn .f32 y,cn .f32 z)).2.1 (pointF n (cn .f32 x,cn .f32 y,cn .f32 z)).2.2 w):=by
 by_cases h15:n.kind = 15
 ·obtain ⟨bp,bv,ov,cap,h1,h2,h3⟩:=hn.nums
  have hk:=hn.kind
  have hB:=hn.b
  have hax:=hok.axis
  obtain ⟨k,na,nb,nums⟩:=n
  simp only at *
  subst h15
  have hb0:nb = 0:=by
   rcases hax with h | h | ⟨h,_⟩
   ·exact absurd h (by decide)
   ·exact h
   ·exact absurd h (by decide)
  subst hb0
  exact point_round (kof (by simp only [List.forall_mem_cons,List.not_mem_nil,false_implies,implies_true,and_true];exact ⟨hk,hB,h1⟩))
 by_cases h16:n.kind = 16
 ·obtain ⟨bp,bv,ov,cap,h1,h2,h3⟩:=hn.nums
  have hk:=hn.kind
  have hB:=hn.b
  have hax:=hok.axis
  obtain ⟨k,na,nb,nums⟩:=n
  simp only at *
  subst h16
  have hb0:nb = 0:=by
   rcases hax with h | h | ⟨h,_⟩
   ·exact absurd h (by decide)
   ·exact h
   ·exact absurd h (by decide)
  subst hb0
  exact point_shell (kof (by simp only [List.forall_mem_cons,List.not_mem_nil,false_implies,implies_true,and_true];exact ⟨hk,hB,h1⟩))
 exact point_node hn hok hc h15 h16 x y z

/-- A list of nodes lies behind a slice at a place. -/
structure ShapeIn (ns:List PN) (sb so nb no cap:Nat) (w:World):Prop where
 list:w.cell? ⟨sb,so,none⟩ = some (.slice (some ⟨nb,no,none⟩) ns.length cap)
 node:∀ i (h:i < ns.length),NodeIn ns[i] nb (no + i * 4) w

theorem ShapeIn.keep {ns:List PN} {sb so nb no cap:Nat} {w w':World} (h:ShapeIn ns sb so nb no cap w) (hb:Below w.heap.size w w'):ShapeIn ns sb so nb no cap w' :=
 ⟨by rw [lift hb _ (by rw [h.list];rfl)];exact h.list,fun i hi => (h.node i hi).keep hb⟩

/-- Every node is right,its children lie ahead of it. -/
def OkAll (ns:List PN):Prop:=∀ i (h:i < ns.length),ns[i].ok ∧ ((ruleF ns[i].kind).2.1 ≠ 0 → 0 ≤ ns[i].a ∧ ns[i].a < i) ∧ ((ruleF ns[i].kind).2.1 = 2 → 0 ≤ ns[i].b ∧ ns[i].b < i)

def distF (ns:List PN):Nat → Nat → Nat × Nat × Nat → Nat
 | 0,_,_ => 0
 | f + 1,i,p =>
  match ns[i]? with
  | none => 0
  | some n =>
   match (ruleF n.kind).2.1 with
   | 0 => leafF n p.1 p.2.1 p.2.2
   | 1 => mixF n (distF ns f n.a.toNat (pointF n p)) 0
   | _ => mixF n (distF ns f n.a.toNat p) (distF ns f n.b.toNat p)

inductive PhiD (ns:List PN) (f:Nat) (n:PN):FuncId → Array Value → Value → Prop
 | dist (sa:Addr) (i:Int) (x y z r:Nat) (h:cn .f32 r = distF ns f i.toNat (cn .f32 x,cn .f32 y,cn .f32 z)):PhiD ns f n 148 #[.pointer (some sa),.int .i64 i,V3 x y z] (F1 r)
 | point (pa:Addr) (x y z a b c:Nat) (h1:cn .f32 a = (pointF n (cn .f32 x,cn .f32 y,cn .f32 z)).1) (h2:cn .f32 b = (pointF n (cn .f32 x,cn .f32 y,cn .f32 z)).2.1) (h3:cn .f32 c = (pointF n (cn .f32 x,cn .f32 y,cn .f32 z)).2.2):PhiD ns f n 235 #[.pointer (some pa),V3 x y z] (V3 a b c)
 | mix (pa:Addr) (x y r:Nat) (h:cn .f32 r = mixF n (cn .f32 x) (cn .f32 y)):PhiD ns f n 234 #[.pointer (some pa),F1 x,F1 y] (F1 r)

set_option maxRecDepth 100000 in
set_option maxHeartbeats 2000000 in
theorem dist_any (ns:List PN) (hok:OkAll ns) (sb so nb no cap:Nat):∀ (f i x y z:Nat) (w:World),i < f → i < ns.length → ShapeIn ns sb so nb no cap w →
  Calls Tryz.prog 148 #[.pointer (some ⟨sb,so,none⟩),.int .i64 i,V3 x y z] w (Ret .f32 (distF ns f i (cn .f32 x,cn .f32 y,cn .f32 z)) w):=by
 intro f
 induction f with
 | zero => intro i _ _ _ _ h;omega
 | succ f ih =>
  intro i x y z w hif hin hsh
  have hlist:=hsh.list
  have hn:=hsh.node i hin
  obtain ⟨hokn,hca,hcb⟩:=hok i hin
  have hget:ns[i]? = some ns[i]:=List.getElem?_eq_getElem hin
  have hi0:(0:Int) ≤ (i:Int):=by omega
  have hin':(i:Int) < (ns.length:Int):=by omega
  generalize ns[i] = n at *
  have hkind:=hn.kind
  have hA:=hn.a
  have hB:=hn.b
  have hnb:nb < w.heap.size:=some_lt (a:=⟨nb,no + i * 4,none⟩) (by rw [hkind];rfl)
  have hsb:sb < w.heap.size:=some_lt (a:=⟨sb,so,none⟩) (by rw [hlist];rfl)
  go_enter Tryz.func148,Tryz.ntmps148
  go_wp2_with fail
  have W1b:Below w.heap.size w (w.alloc (.cells #[F1 x,F1 y,F1 z] 38)):=(by repeat' (first | exact Below.refl _ _ | exact Nat.le_refl _ | refine below_drewN ?_ _ | refine Below.alloc ?_ (by simp <;> omega) _ | refine Below.setCell ?_ (by simp <;> omega) _ | refine below_step ?_ (by assumption)))

  have hbox:Kept [(⟨w.heap.size,0,none⟩,F1 x),(⟨w.heap.size,1,none⟩,F1 y),(⟨w.heap.size,2,none⟩,F1 z)] [] (w.alloc (.cells #[F1 x,F1 y,F1 z] 38)):=by
   simp only [Kept,ka,kb,kc,kd,ke,kfa,kga]
   simp
  generalize w.alloc (.cells #[F1 x,F1 y,F1 z] 38) = W1 at W1b hbox ⊢
  have hn1:=hn.keep W1b
  refine (children_any nb (no + i * 4) n.kind n.a n.b W1 hn1.kind hn1.a hn1.b).mono ?_
  rintro _ w2 ⟨g,rfl,-,-,-,hb2⟩
  have W2b:=below_step W1b hb2
  have hn2:=hn.keep W2b
  have hsh2:=hsh.keep W2b
  have hbox:=keep hbox hb2
  have hK:=hbox
  have hkind:=hn2.kind
  have hA:=hn2.a
  have hB:=hn2.b
  simp only [Kept,ka,kb,kc,kd,ke,kfa,kga] at hK
  clear hb2 hn1 W1b hlist
  have hc3:(ruleF n.kind).2.1 = 0 ∨ (ruleF n.kind).2.1 = 1 ∨ (ruleF n.kind).2.1 = 2:=by
   unfold ruleF;split
   ·unfold ruleT;split <;> simp
   ·simp
  have hd:∀ p,distF ns (f + 1) i p = match (ruleF n.kind).2.1 with
   | 0 => leafF n p.1 p.2.1 p.2.2
   | 1 => mixF n (distF ns f n.a.toNat (pointF n p)) 0
   | _ => mixF n (distF ns f n.a.toNat p) (distF ns f n.b.toNat p):=fun p => by
   rw [distF,hget]
  have ihA:(ruleF n.kind).2.1 ≠ 0 → ∀ (x y z:Nat) (w:World),ShapeIn ns sb so nb no cap w → Calls Tryz.prog 148 #[.pointer (some ⟨sb,so,none⟩),.int .i64 n.a,V3 x y z] w (Ret .f32 (distF ns f n.a.toNat (cn .f32 x,cn .f32 y,cn .f32 z)) w):=fun h x y z w hs => by
   have h1:=hca h
   have h2:=ih n.a.toNat x y z w (by omega) (by omega) hs
   rwa [Int.toNat_of_nonneg h1.1] at h2
  have ihB:(ruleF n.kind).2.1 = 2 → ∀ (x y z:Nat) (w:World),ShapeIn ns sb so nb no cap w → Calls Tryz.prog 148 #[.pointer (some ⟨sb,so,none⟩),.int .i64 n.b,V3 x y z] w (Ret .f32 (distF ns f n.b.toNat (cn .f32 x,cn .f32 y,cn .f32 z)) w):=fun h x y z w hs => by
   have h1:=hcb h
   have h2:=ih n.b.toNat x y z w (by omega) (by omega) hs
   rwa [Int.toNat_of_nonneg h1.1] at h2
  have hkept:Kept [(⟨nb,no + i * 4 + 1,none⟩,.int .i64 n.a),(⟨nb,no + i * 4 + 2,none⟩,.int .i64 n.b),(⟨w.heap.size,0,none⟩,F1 x),(⟨w.heap.size,1,none⟩,F1 y),(⟨w.heap.size,2,none⟩,F1 z)] [] w2:=by
   simp only [Kept,ka,kb,kc,kd,ke,kfa,kga]
   exact ⟨hA,hB,hK⟩
  clear ih hok hca hcb hsh hn
  rcases hc3 with hc | hc | hc
  ·have hd:=hd (cn .f32 x,cn .f32 y,cn .f32 z)
   rw [hc] at hd ⊢
   go_wp2_with fail
   refine (leaf_node hn2 hokn hc x y z).mono ?_
   rintro _ w3 ⟨r,rfl,hr,hb3⟩
   go_wp2_with fail
   go_ret
   exact ⟨_,rfl,by rw [hr,hd],below_step W2b hb3⟩
  ·have hd:=hd (cn .f32 x,cn .f32 y,cn .f32 z)
   rw [hc] at hd ⊢
   have ihA:=ihA (by rw [hc];decide)
   go_wp2_with fail
   refine Qr.wp_below_all (by kernel_rfl) (by kernel_rfl) (PhiD ns f n) ?_
   repeat (first | (refine Qr.walk_plain rfl fun K hK => ?_;apply Qr.one_det;(focus (intro w' hw';have HK:=keep hkept hw';simp only [Kept,ka,kb,kc,kd,ke,kfa,kga] at HK;go_simp;first | done | rfl));go_simp;refine hK _ ?_;clear hK K) | (refine Qr.walk_plain rfl fun K hK => ?_;apply Qr.one_call;(focus (intro w' hw';go_simp;first | done | exact ⟨rfl,rfl⟩));(focus (intro w' hw'; go_at_call 235;refine (point_all (hn2.keep hw') hokn hc _ _ _).mono ?_;rintro _ w3 ⟨r1,r2,r3,rfl,hr1,hr2,hr3,hb1⟩ ;exact ⟨_,rfl,by constructor <;> assumption,below_step hw' (by assumption),by assumption⟩));intro v hv;cases hv;go_simp;refine hK _ ?_;clear hK K) | (refine Qr.walk_plain rfl fun K hK => ?_;apply Qr.one_call;(focus (intro w' hw';go_simp;first | done | exact ⟨rfl,rfl⟩));(focus (intro w' hw'; go_at_call 148;refine (ihA _ _ _ _ (hsh2.keep hw')).mono ?_;rintro _ w3 ⟨r1,rfl,hr1,hb1⟩ ;exact ⟨_,rfl,by constructor <;> assumption,below_step hw' (by assumption),by assumption⟩));intro v hv;cases hv;go_simp;refine hK _ ?_;clear hK K) | (refine Qr.walk_plain rfl fun K hK => ?_;apply Qr.one_call;(focus (intro w' hw';go_simp;first | done | exact ⟨rfl,rfl⟩));(focus (intro w' hw'; go_at_call 234;refine (mix_node (hn2.keep hw') hokn (by rw [hc];decide) _ _).mono ?_;rintro _ w3 ⟨r1,rfl,hr1,hb1⟩ ;exact ⟨_,rfl,by constructor <;> assumption,below_step hw' (by assumption),by assumption⟩));intro v hv;cases hv;go_simp;refine hK _ ?_;clear hK K))
   rename_i a1 b1 c1 h1 h2 h3 r1 e1 r e
   refine Qr.walk_nil fun w5 hw5 => ?_
   go_wp2_with fail
   go_ret
   exact ⟨r,rfl,by rw [hd,e,e1,h1,h2,h3,cn_zero],below_step W2b hw5⟩
  ·have hd:=hd (cn .f32 x,cn .f32 y,cn .f32 z)
   rw [hc] at hd ⊢
   have ihA:=ihA (by rw [hc];decide)
   have ihB:=ihB hc
   have ihAB:∀ c:Int,c = n.a ∨ c = n.b → ∀ (x y z:Nat) (w:World),ShapeIn ns sb so nb no cap w → Calls Tryz.prog 148 #[.pointer (some ⟨sb,so,none⟩),.int .i64 c,V3 x y z] w (Ret .f32 (distF ns f c.toNat (cn .f32 x,cn .f32 y,cn .f32 z)) w):=by
    intro c hc
    rcases hc with h | h <;> subst h
    ·exact ihA
    ·exact ihB
   clear ihA ihB
   go_wp2_with fail
   refine Qr.wp_below_all (by kernel_rfl) (by kernel_rfl) (PhiD ns f n) ?_
   repeat (first | (refine Qr.walk_plain rfl fun K hK => ?_;apply Qr.one_det;(focus (intro w' hw';have HK:=keep hkept hw';simp only [Kept,ka,kb,kc,kd,ke,kfa,kga] at HK;go_simp;first | done | rfl));go_simp;refine hK _ ?_;clear hK K) | (refine Qr.walk_plain rfl fun K hK => ?_;apply Qr.one_call;(focus (intro w' hw';go_simp;first | done | exact ⟨rfl,rfl⟩));(focus (intro w' hw'; go_at_call 148;refine (ihAB _ (by first | exact Or.inl rfl | exact Or.inr rfl) _ _ _ _ (hsh2.keep hw')).mono ?_;rintro _ w3 ⟨r1,rfl,hr1,hb1⟩ ;exact ⟨_,rfl,by constructor <;> assumption,below_step hw' (by assumption),by assumption⟩));intro v hv;cases hv;go_simp;refine hK _ ?_;clear hK K) | (refine Qr.walk_plain rfl fun K hK => ?_;apply Qr.one_call;(focus (intro w' hw';go_simp;first | done | exact ⟨rfl,rfl⟩));(focus (intro w' hw'; go_at_call 234;refine (mix_node (hn2.keep hw') hokn (by rw [hc];decide) _ _).mono ?_;rintro _ w3 ⟨r1,rfl,hr1,hb1⟩ ;exact ⟨_,rfl,by constructor <;> assumption,below_step hw' (by assumption),by assumption⟩));intro v hv;cases hv;go_simp;refine hK _ ?_;clear hK K))
   rename_i r1 e1 r2 e2 r e
   refine Qr.walk_nil fun w5 hw5 => ?_
   go_wp2_with fail
   go_ret
   exact ⟨r,rfl,by rw [hd,e,e1,e2],below_step W2b hw5⟩

end Go.Proofs.YtbiacfkiakddiaaGreat

namespace Go.Proofs.YtbiacfkiakddiaaGreat
open Go.RowKit Go.Fl
/-- Points in memory. -/
def PtsIn (n g o:Nat) (P:Nat → Nat × Nat × Nat) (w:World):Prop:=∀ i,i < n → w.cell? ⟨g,o + i * 3,none⟩ = some (F1 (P i).1) ∧ w.cell? ⟨g,o + i * 3 + 1,none⟩ = some (F1 (P i).2.1) ∧ w.cell? ⟨g,o + i * 3 + 2,none⟩ = some (F1 (P i).2.2)
theorem PtsIn.keep {n g o:Nat} {P:Nat → Nat × Nat × Nat} {w w':World} (h:PtsIn n g o P w) (hb:Below w.heap.size w w'):PtsIn n g o P w':=fun i hi => by
 obtain ⟨h1,h2,h3⟩:=h i hi
 exact ⟨by rw [lift hb _ (by rw [h1];rfl)];exact h1,by rw [lift hb _ (by rw [h2];rfl)];exact h2,by rw [lift hb _ (by rw [h3];rfl)];exact h3⟩
end Go.Proofs.YtbiacfkiakddiaaGreat

namespace Go.Proofs.YtbiacfkiakddiaaGreat
open Go.RowKit Go.Fl
def takeL (n:Nat) (l:Int):Int:=if l - n < 0 then -1 else l - n
def szL:List PN → Int → Int
 | [],l => l
 | n :: r,l => if takeL n.nums.length l < 0 then -1 else szL r (takeL n.nums.length l)
def szS (ns:List PN) (l:Int):Int:=if takeL ns.length l < 0 then -1 else szL ns (takeL ns.length l)

set_option maxHeartbeats 400000 in
theorem sz_float (bp:Option Addr) (n cap:Nat) (l:Int) (w:World) (hn:n ≤ maxLen) (hl:0 ≤ l ∧ l ≤ 1048576) :
  Calls Tryz.prog 184 #[.slice bp n cap,.int .i64 l] w (fun e w' => e = .returned (.int .i64 (takeL n l)) ∧ Below w.heap.size w w'):=by
 unfold maxLen at hn
 obtain ⟨hl0,hl1⟩:=hl
 have hnI:(n:Int) ≤ 9223372036854775807:=by omega
 by_cases h:l - n < 0
 ·have hv:takeL n l = -1:=by unfold takeL;rw [if_pos h]
  rw [hv]
  go_enter Tryz.func184,Tryz.ntmps184
  go_wp2_with fail
  go_ret
  exact ⟨rfl,Below.refl _ _⟩
 ·have hv:takeL n l = l - n:=by unfold takeL;rw [if_neg h]
  have hv2:0 ≤ l - (n:Int):=by omega
  rw [hv]
  go_enter Tryz.func184,Tryz.ntmps184
  go_wp2_with fail
  go_ret
  exact ⟨rfl,Below.refl _ _⟩

theorem takeL_le {n:Nat} {l:Int} (hl:0 ≤ l ∧ l ≤ 1048576) (h:¬ takeL n l < 0):0 ≤ takeL n l ∧ takeL n l ≤ 1048576 ∧ (n:Int) ≤ 1048576:=by
 unfold takeL at *
 split at h
 ·omega
 ·rename_i h';rw [if_neg h'];omega

set_option maxHeartbeats 400000 in
theorem sz_node (k a b:Int) (bp:Option Addr) (n cap:Nat) (l:Int) (w:World) (hn:n ≤ maxLen) (hl:0 ≤ l ∧ l ≤ 1048576) :
  Calls Tryz.prog 117 #[.agg #[.int .i64 k,.int .i64 a,.int .i64 b,.slice bp n cap],.int .i64 l] w (fun e w' => e = .returned (.int .i64 (takeL n l)) ∧ Below w.heap.size w w'):=by
 have hc:=fun w => sz_float bp n cap l w hn hl
 by_cases h:takeL n l < 0
 ·have hm:takeL n l = -1:=by
   unfold takeL at h ⊢
   split
   ·rfl
   ·rename_i h';rw [if_neg h'] at h;omega
  rw [hm] at hc ⊢
  clear hm h
  go_enter Tryz.func117,Tryz.ntmps117
  go_wp2_with (go_at_call 184;refine (hc _).mono ?_;rintro _ w2 ⟨rfl,hb2⟩)
  go_ret
  exact ⟨rfl,(by repeat' (first | exact Below.refl _ _ | exact Nat.le_refl _ | refine below_drewN ?_ _ | refine Below.alloc ?_ (by simp <;> omega) _ | refine Below.setCell ?_ (by simp <;> omega) _ | refine below_step ?_ (by assumption)))⟩
 ·have h2:=(takeL_le hl h).1
  generalize takeL n l = t at *
  go_enter Tryz.func117,Tryz.ntmps117
  go_wp2_with (go_at_call 184;refine (hc _).mono ?_;rintro _ w2 ⟨rfl,hb2⟩)
  go_ret
  exact ⟨rfl,(by repeat' (first | exact Below.refl _ _ | exact Nat.le_refl _ | refine below_drewN ?_ _ | refine Below.alloc ?_ (by simp <;> omega) _ | refine Below.setCell ?_ (by simp <;> omega) _ | refine below_step ?_ (by assumption)))⟩

/-- A list of nodes lies from a place on;the lists of numbers are not too long. -/
structure NodesIn (ns:List PN) (bp:Option Addr) (nb no:Nat) (w:World):Prop where
 ptr:ns ≠ [] → bp = some ⟨nb,no,none⟩
 node:∀ i (h:i < ns.length),NodeIn ns[i] nb (no + i * 4) w
 long:ns.length ≤ maxLen ∧ ∀ n ∈ ns,n.nums.length ≤ maxLen

theorem NodesIn.keep {ns:List PN} {bp:Option Addr} {nb no:Nat} {w w':World} (h:NodesIn ns bp nb no w) (hb:Below w.heap.size w w'):NodesIn ns bp nb no w' :=
 ⟨h.ptr,fun i hi => (h.node i hi).keep hb,h.long⟩

set_option maxRecDepth 100000 in
set_option maxHeartbeats 2000000 in
theorem sz_nodes (ns:List PN) (bp:Option Addr) (nb no cap:Nat) (l:Int) (w:World) (hns:NodesIn ns bp nb no w) (hl:0 ≤ l ∧ l ≤ 1048576) :
  Calls Tryz.prog 59 #[.slice bp ns.length cap,.int .i64 l] w (fun e w' => e = .returned (.int .i64 (szS ns l)) ∧ Below w.heap.size w w'):=by
 have hlong:=hns.long.1
 unfold maxLen at hlong
 have hlongI:(ns.length:Int) ≤ 9223372036854775807:=by omega
 obtain ⟨hl0,hl1⟩:=hl
 by_cases h:l - ns.length < 0
 ·have hv:szS ns l = -1:=by unfold szS takeL;rw [if_pos h];rfl
  rw [hv]
  clear hns
  go_enter Tryz.func59,Tryz.ntmps59
  go_wp2_with fail
  go_ret
  exact ⟨rfl,Below.refl _ _⟩
 ·have hv2:0 ≤ l - (ns.length:Int):=by omega
  have hv:Hid (szS ns l = szL ns (l - ns.length)):=by
   unfold Hid szS takeL;rw [if_neg h,if_neg h]
  have hlenI:(ns.length:Int) ≤ 1048576:=by omega
  have hlim:l - (ns.length:Int) ≤ 1048576:=by omega
  go_enter Tryz.func59,Tryz.ntmps59
  go_wp2_with fail
  go_loopw [1,5] (fun lv i wr => ∃ (m:Nat) (lx:Int),m ≤ ns.length ∧ i = .int .i64 (m:Int) ∧ lv = .int .i64 lx ∧ 0 ≤ lx ∧ lx ≤ 1048576 ∧ szL (ns.drop m) lx = szL ns (l - ns.length) ∧ Below w.heap.size w wr) (fun _ i _ => ns.length - (intOf i).toNat)
  case atStart => exact ⟨0,_,by omega,rfl,rfl,hv2,hlim,rfl,Below.refl _ _⟩
  case round =>
   obtain ⟨m,lx,hm,rfl,rfl,hx0,hx1,hrun,Wb⟩:=hrel
   by_cases hlt:m < ns.length
   ·have hlt':(m:Int) < (ns.length:Int):=by omega
    have h0:(0:Int) ≤ (m:Int):=by omega
    have hn:=(hns.node m hlt).keep Wb
    have hne:ns ≠ []:=by intro h;rw [h] at hlt;simp at hlt
    have hbp:=hns.ptr hne
    subst hbp
    have hdrop:ns.drop m = ns[m] :: ns.drop (m + 1):=List.drop_eq_getElem_cons hlt
    rw [hdrop,szL] at hrun
    have hnl:=hns.long.2 ns[m] (List.getElem_mem _)
    generalize ns[m] = n at *
    obtain ⟨np,nv,nvo,ncap,hn4,-,-⟩:=hn.nums
    have hn1:=hn.kind
    have hn2:=hn.a
    have hn3:=hn.b
    have hc:=fun w => sz_node n.kind n.a n.b np n.nums.length ncap lx w hnl ⟨hx0,hx1⟩
    have hrH:=Lib.hid hrun
    clear hns hn hdrop hnl hrun
    by_cases ht:takeL n.nums.length lx < 0
    ·have hvv:Hid (szS ns l = -1):=by unfold Hid;rw [hv.out,← hrH.out,if_pos ht]
     go_wp2_with (go_at_call 117;refine (hc _).mono ?_;rintro _ w2 ⟨rfl,hb2⟩)
     go_ret
     exact ⟨by rw [hvv.out];rfl,below_step Wb hb2⟩
    ·have h2:=takeL_le ⟨hx0,hx1⟩ ht
     have hrr:Hid (szL (ns.drop (m + 1)) (takeL n.nums.length lx) = szL ns (l - ns.length)):=by
      unfold Hid;rw [← hrH.out,if_neg ht]
     obtain ⟨h2a,h2b,-⟩:=h2
     generalize takeL n.nums.length lx = t at *
     clear hrH
     go_wp2_with (go_at_call 117;refine (hc _).mono ?_;rintro _ w2 ⟨rfl,hb2⟩)
     exact ⟨⟨m + 1,t,by omega,by simp,rfl,h2a,h2b,hrr.out,below_step Wb hb2⟩,by simp [intOf];omega⟩
   ·obtain rfl:m = ns.length:=by omega
    rw [List.drop_length,szL] at hrun
    have hrH:=Lib.hid hrun
    clear hrun hns
    go_wp2_with fail
    go_ret
    exact ⟨by rw [hv.out,← hrH.out];rfl,Wb⟩

theorem szL_neg {ns:List PN}:∀ {l:Int},0 ≤ l → szL ns l < 0 → szL ns l = -1:=by
 induction ns with
 | nil => intro l h0 h;unfold szL at h;omega
 | cons n r ih =>
  intro l h0 h
  unfold szL at h ⊢
  split
  ·rfl
  ·rename_i ht
   rw [if_neg ht] at h
   exact ih (by omega) h
theorem szS_neg {ns:List PN} {l:Int} (h:szS ns l < 0):szS ns l = -1:=by
 unfold szS at *
 split
 ·rfl
 ·rename_i ht
  rw [if_neg ht] at h
  exact szL_neg (by omega) h

set_option maxHeartbeats 400000 in
theorem sz_shape (ns:List PN) (bp:Option Addr) (nb no cap:Nat) (l:Int) (w:World) (hns:NodesIn ns bp nb no w) (hl:0 ≤ l ∧ l ≤ 1048576) :
  Calls Tryz.prog 13 #[.agg #[.slice bp ns.length cap],.int .i64 l] w (fun e w' => e = .returned (.int .i64 (szS ns l)) ∧ Below w.heap.size w w'):=by
 have hc:=fun w' (h:Below w.heap.size w w') => sz_nodes ns bp nb no cap l w' (hns.keep h) hl
 by_cases h:szS ns l < 0
 ·have hm:=szS_neg h
  rw [hm] at hc ⊢
  clear hm h hns
  go_enter Tryz.func13,Tryz.ntmps13
  go_wp2_with (go_at_call 59;refine (hc _ (by repeat' (first | exact Below.refl _ _ | exact Nat.le_refl _ | refine below_drewN ?_ _ | refine Below.alloc ?_ (by simp <;> omega) _ | refine Below.setCell ?_ (by simp <;> omega) _ | refine below_step ?_ (by assumption)))).mono ?_;rintro _ w2 ⟨rfl,hb2⟩)
  go_ret
  exact ⟨rfl,(by repeat' (first | exact Below.refl _ _ | exact Nat.le_refl _ | refine below_drewN ?_ _ | refine Below.alloc ?_ (by simp <;> omega) _ | refine Below.setCell ?_ (by simp <;> omega) _ | refine below_step ?_ (by assumption)))⟩
 ·have h2:0 ≤ szS ns l:=by omega
  clear hns
  generalize szS ns l = t at *
  go_enter Tryz.func13,Tryz.ntmps13
  go_wp2_with (go_at_call 59;refine (hc _ (by repeat' (first | exact Below.refl _ _ | exact Nat.le_refl _ | refine below_drewN ?_ _ | refine Below.alloc ?_ (by simp <;> omega) _ | refine Below.setCell ?_ (by simp <;> omega) _ | refine below_step ?_ (by assumption)))).mono ?_;rintro _ w2 ⟨rfl,hb2⟩)
  go_ret
  exact ⟨rfl,(by repeat' (first | exact Below.refl _ _ | exact Nat.le_refl _ | refine below_drewN ?_ _ | refine Below.alloc ?_ (by simp <;> omega) _ | refine Below.setCell ?_ (by simp <;> omega) _ | refine below_step ?_ (by assumption)))⟩

theorem szL_small:∀ {ns:List PN} {l:Int},0 ≤ l → l ≤ 1048576 → 0 ≤ szL ns l → ∀ n ∈ ns,(n.nums.length:Int) ≤ 1048576
 | [],_,_,_,_,n,h => by cases h
 | x :: r,l,h0,h1,hs,n,h => by
  unfold szL at hs
  by_cases ht:takeL x.nums.length l < 0
  ·rw [if_pos ht] at hs;omega
  ·rw [if_neg ht] at hs
   have:=takeL_le ⟨h0,h1⟩ ht
   rcases List.mem_cons.1 h with h | h
   ·subst h;exact this.2.2
   ·exact szL_small this.1 this.2.1 hs n h
theorem szS_small {ns:List PN} {l:Int} (h0:0 ≤ l) (h1:l ≤ 1048576) (hs:¬ szS ns l < 0):(ns.length:Int) ≤ 1048576 ∧ ∀ n ∈ ns,(n.nums.length:Int) ≤ 1048576:=by
 unfold szS at hs
 by_cases ht:takeL ns.length l < 0
 ·rw [if_pos ht] at hs;omega
 ·rw [if_neg ht] at hs
  have:=takeL_le ⟨h0,h1⟩ ht
  exact ⟨this.2.2,szL_small this.1 this.2.1 (by omega)⟩
end Go.Proofs.YtbiacfkiakddiaaGreat

namespace Go.Proofs.YtbiacfkiakddiaaGreat
open Go.RowKit Go.Fl
def inI (a lo hi:Int):Bool:=decide (lo ≤ a) && decide (a ≤ hi)
def numS (n:PN):Bool:=decide (n.nums.length = (ruleF n.kind).1) && !n.nums.any (badS (ruleF n.kind).2.2.2)
def nodeS (n:PN) (i:Int):Bool :=
 inI n.kind 0 16 && numS n &&
  (if inI n.kind 0 4 then decide (n.a = 0) && decide (n.b = 0) else inI n.a 0 (i - 1) && (if inI n.kind 5 8 then inI n.b 0 (i - 1) else if inI n.kind 12 14 then inI n.b 0 2 else decide (n.b = 0)))

inductive PhiN (n:PN):FuncId → Array Value → Value → Prop
 | inn (a b c:Int):PhiN n 71 #[.int .i64 a,.int .i64 b,.int .i64 c] (.bool (inI a b c))
 | num (k:Int) (v:Value):PhiN n 185 #[.int .i64 k,v] (.bool (numS n))

theorem if_no {c:Prop} [Decidable c] {p q:Prop} (h:¬ c) (hq:q):if c then p else q:=by rw [if_neg h];exact hq
theorem no_w {bv:Bool} (hb:bv = false) (h:(some (!bv) == some false) = true):False:=by subst hb;cases h

set_option maxRecDepth 100000 in
set_option maxHeartbeats 400000 in
theorem s_node_no {n:PN} {b o:Nat} {w:World} (hn:NodeIn n b o w) (hl:n.nums.length < 10000000) (i:Nat) (hi:i < 1000) (hk0:inI n.kind 0 16 = false) :
  Calls Tryz.prog 118 #[.pointer (some ⟨b,o,none⟩),.int .i64 i] w (fun e w' => e = .returned (.bool (nodeS n i)) ∧ Below w.heap.size w w'):=by
 have hK1:=hn.kind
 obtain ⟨nbp,nbv,nov,ncap,hK2,hK3,hK4⟩:=hn.nums
 have hkept:Kept [(⟨b,o,none⟩,.int .i64 n.kind),(⟨b,o + 3,none⟩,.slice nbp n.nums.length ncap)] [] w:=by
  simp only [Kept,ka,kb,kc,kd,ke,kfa,kga]
  exact ⟨hK1,hK2⟩
 have hb:b < w.heap.size:=some_lt (a:=⟨b,o,none⟩) (by rw [hK1];rfl)
 ·have hv:Hid (nodeS n i = false):=by unfold Hid;simp only [nodeS,hk0,Bool.false_and]
  have HK0:Hid (inI n.kind 0 16 = false):=Lib.hid hk0
  clear hk0
  go_enter Tryz.func118,Tryz.ntmps118
  go_wp2_with fail
  refine Qr.wp_below_all (by kernel_rfl) (by kernel_rfl) (PhiN n) ?_
  iterate 7 (first | (refine Qr.walk_plain rfl fun K hK => ?_;apply Qr.one_det;(focus (intro w' hw';have HK:=keep hkept hw';simp only [Kept,ka,kb,kc,kd,ke,kfa,kga] at HK;go_simp;first | done | rfl));go_simp;refine hK _ ?_;clear hK K) | (refine Qr.walk_plain rfl fun K hK => ?_;apply Qr.one_call;(focus (intro w' hw';go_simp;first | done | exact ⟨rfl,rfl⟩));(focus (intro w' hw'; go_at_call 71;refine (s_in_any _ _ _ _).mono ?_;rintro _ w2 ⟨rfl,rfl⟩;exact ⟨_,rfl,by constructor,hw',Below.refl _ _⟩));intro v hv2;obtain ⟨bv,rfl,HB⟩:∃ bv,v = .bool bv ∧ Hid (bv = false):=(by cases hv2;exact ⟨_,rfl,HK0⟩);go_simp;refine hK _ ?_;clear hK K))
  iterate 10 (refine Qr.walk_step fun K hK => ?_;refine if_no (fun h => no_w HB.out h) ?_;go_simp;refine hK _ ?_;clear hK K)
  refine Qr.walk_plain rfl fun K hK => ?_
  refine Qr.one_det (v:=.bool true) (by intro w' hw';have hb0:=HB.out;subst hb0;go_simp) ?_;go_simp;refine hK _ ?_;clear hK K
  refine Qr.walk_nil fun w6 hw6 => ?_
  go_wp2_with fail
  go_ret
  exact ⟨by rw [hv.out];rfl,hw6⟩

set_option maxRecDepth 100000 in
set_option maxHeartbeats 4000000 in
theorem s_node_any {n:PN} {b o:Nat} {w:World} (hn:NodeIn n b o w) (hl:n.nums.length < 10000000) (i:Nat) (hi:i < 1000) :
  Calls Tryz.prog 118 #[.pointer (some ⟨b,o,none⟩),.int .i64 i] w (fun e w' => e = .returned (.bool (nodeS n i)) ∧ Below w.heap.size w w'):=by
 have hK1:=hn.kind
 obtain ⟨nbp,nbv,nov,ncap,hK2,hK3,hK4⟩:=hn.nums
 have hkept:Kept [(⟨b,o,none⟩,.int .i64 n.kind),(⟨b,o + 3,none⟩,.slice nbp n.nums.length ncap)] [] w:=by
  simp only [Kept,ka,kb,kc,kd,ke,kfa,kga]
  exact ⟨hK1,hK2⟩
 have hb:b < w.heap.size:=some_lt (a:=⟨b,o,none⟩) (by rw [hK1];rfl)
 cases hk0:inI n.kind 0 16
 ·exact s_node_no hn hl i hi hk0
 have hnumc:∀ w',Below w.heap.size w w' → Calls Tryz.prog 185 #[.int .i64 n.kind,.slice nbp n.nums.length ncap] w' (fun e w'' => e = .returned (.bool (numS n)) ∧ Below w'.heap.size w' w''):=fun w' h => s_numbers_any n.kind (by simpa [inI] using hk0) n.nums nbp nbv nov ncap w' hK3 (fun i hi => by rw [lift h _ (by rw [hK4 i hi];rfl)];exact hK4 i hi)
 go_enter Tryz.func118,Tryz.ntmps118
 go_wp2_with fail
 refine Qr.wp_below_all (by kernel_rfl) (by kernel_rfl) (PhiN n) ?_
 repeat (first | (refine Qr.walk_plain rfl fun K hK => ?_;apply Qr.one_det;(focus (intro w' hw';have HK:=keep hkept hw';simp only [Kept,ka,kb,kc,kd,ke,kfa,kga] at HK;go_simp;first | done | rfl));go_simp;refine hK _ ?_;clear hK K) | (refine Qr.walk_plain rfl fun K hK => ?_;apply Qr.one_call;(focus (intro w' hw';go_simp;first | done | exact ⟨rfl,rfl⟩));(focus (intro w' hw'; go_at_call 71;refine (s_in_any _ _ _ _).mono ?_;rintro _ w2 ⟨rfl,rfl⟩;exact ⟨_,rfl,by constructor,hw',Below.refl _ _⟩));intro v hv;cases hv;go_simp;refine hK _ ?_;clear hK K))
 repeat (first | (refine Qr.walk_step fun K hK => ?_;rw [if_pos (by rfl)];apply Qr.one_det;(focus (intro w' hw';have HK:=keep hkept hw';simp only [Kept,ka,kb,kc,kd,ke,kfa,kga] at HK;go_simp;first | done | rfl));go_simp;refine hK _ ?_;clear hK K) | (refine Qr.walk_step fun K hK => ?_;rw [if_pos (by rfl)];apply Qr.one_call;(focus (intro w' hw';go_simp;first | done | exact ⟨rfl,rfl⟩));(focus (intro w' hw'; go_at_call 185;refine (hnumc _ hw').mono ?_;rintro _ w2 ⟨rfl,hb1⟩;exact ⟨_,rfl,by constructor,below_step hw' (by assumption),by assumption⟩));intro v hv;cases hv;go_simp;refine hK _ ?_;clear hK K))
 refine Qr.walk_nil fun w6 hw6 => ?_
 have hA:=(hn.keep hw6).a
 have hB:=(hn.keep hw6).b
 have hK:=(hn.keep hw6).kind
 clear hkept hnumc hK1 hK2 hK3 hK4 hn
 have hi1:(0:Int) ≤ (i:Int):=by omega
 have hi2:(i:Int) < 1000:=by omega
 have hv:Hid (nodeS n i = (numS n && (if inI n.kind 0 4 then decide (n.a = 0) && decide (n.b = 0) else inI n.a 0 (i - 1) && (if inI n.kind 5 8 then inI n.b 0 (i - 1) else if inI n.kind 12 14 then inI n.b 0 2 else decide (n.b = 0))))):=by
  unfold Hid;simp only [nodeS,hk0,Bool.true_and]
 cases hns:numS n
 ·go_wp2_with fail
  go_ret
  exact ⟨by rw [hv.out,hns];rfl,hw6⟩
 have hin:∀ (a c d:Int) (w:World),Calls Tryz.prog 71 #[.int .i64 a,.int .i64 c,.int .i64 d] w (fun e w' => e = .returned (.bool (inI a c d)) ∧ w = w'):=fun a c d w => s_in_any a c d w
 have hleaf:∀ (a:Int) (w:World),Calls Tryz.prog 119 #[.int .i64 a] w (fun e w' => e = .returned (.bool (inI a 0 4)) ∧ w = w'):=fun a w => s_leaf_any a w
 have htwo:∀ (a:Int) (w:World),Calls Tryz.prog 120 #[.int .i64 a] w (fun e w' => e = .returned (.bool (inI a 5 8)) ∧ w = w'):=fun a w => s_two_any a w
 have haxis:∀ (a:Int) (w:World),Calls Tryz.prog 186 #[.int .i64 a] w (fun e w' => e = .returned (.bool (inI a 12 14)) ∧ w = w'):=fun a w => s_axis_any a w
 cases hlf:inI n.kind 0 4
 ·cases hia:inI n.a 0 ((i:Int) - 1) <;> cases htw:inI n.kind 5 8 <;> cases hax:inI n.kind 12 14 <;> by_cases hb':n.b = 0
  all_goals
   go_wp2_with (first
    | (go_at_call 119;refine (hleaf _ _).mono ?_;rintro _ w2 ⟨rfl,rfl⟩;rw [hlf])
    | (go_at_call 120;refine (htwo _ _).mono ?_;rintro _ w2 ⟨rfl,rfl⟩;rw [htw])
    | (go_at_call 186;refine (haxis _ _).mono ?_;rintro _ w2 ⟨rfl,rfl⟩;rw [hax])
    | (go_at_call 71;refine (hin _ _ _ _).mono ?_;rintro _ w2 ⟨rfl,rfl⟩;(try rw [hia])))
   go_ret
   exact ⟨by rw [hv.out,hns,hlf,hia,htw,hax];first | rfl | simp [hb'],hw6⟩
 ·by_cases ha:n.a = 0 <;> by_cases hb':n.b = 0
  all_goals
   go_wp2_with (go_at_call 119;refine (hleaf _ _).mono ?_;rintro _ w2 ⟨rfl,rfl⟩;rw [hlf])
   go_ret
   exact ⟨by rw [hv.out,hns,hlf];simp [ha,hb'],hw6⟩
end Go.Proofs.YtbiacfkiakddiaaGreat

namespace Go.Proofs.YtbiacfkiakddiaaGreat
open Go.RowKit Go.Fl
inductive PhiTl (p:Bool):FuncId → Array Value → Value → Prop
 | pix (args:Array Value):PhiTl p 99 args (.bool p)
 | inn (a b c:Int):PhiTl p 71 #[.int .i64 a,.int .i64 b,.int .i64 c] (.bool (inI a b c))

end Go.Proofs.YtbiacfkiakddiaaGreat
