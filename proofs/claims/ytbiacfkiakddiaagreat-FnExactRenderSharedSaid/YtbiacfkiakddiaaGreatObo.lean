/-
 Lemmas: C4,U7,U8,U10,Y5.
-/
import Derived.Test.YtbiacfkiakddiaaGreatObn
set_option linter.unusedVariables false
set_option linter.unusedSimpArgs false
namespace Go.Proofs.YtbiacfkiakddiaaGreat
open Go.RowKit Go.Fl
/-- Points of one's own. -/
def VcOwn (n G:Nat) (P:Nat → Nat × Nat × Nat) (w:World):Prop:=(∃ A:Array Value,A.size = n * 3 ∧ w.heap[G]? = some (.cells A 38 (0,0))) ∧ PtsIn n G 0 P w
theorem VcOwn.keep {n G:Nat} {P:Nat → Nat × Nat × Nat} {w w':World} (h:VcOwn n G P w) (hb:Below w.heap.size w w'):VcOwn n G P w':=by
 obtain ⟨⟨A,h1,h2⟩,h3⟩:=h
 exact ⟨⟨A,h1,by rw [hb.block G (Array.getElem?_eq_some_iff.1 h2).1];exact h2⟩,h3.keep hb⟩

end Go.Proofs.YtbiacfkiakddiaaGreat

namespace Go.Proofs.YtbiacfkiakddiaaGreat
open Go.RowKit Go.Fl
/-- Numbers are marked. -/
def Cells (g n:Nat) (w:World):Prop:=∀ i,i < n → ∃ v,w.cell? ⟨g,i,none⟩ = some v
theorem Cells.set {g n:Nat} {w:World} (h:Cells g n w) (p:Addr) (v:Value):Cells g n (w.setCell p v):=fun i hi => by
 obtain ⟨u,hu⟩:=h i hi
 by_cases hp:p = ⟨g,i,none⟩
 ·subst hp
  exact ⟨v,World.cell?_setCell_same w _ v hu⟩
 ·exact ⟨u,(World.cell?_setCell_other (w:=w) (a:=p) (b:=⟨g,i,none⟩) (v:=v) hp).trans hu⟩

theorem some_set {w:World} {a p:Addr} {v:Value} (h:∃ u,w.cell? a = some u):∃ u,(w.setCell p v).cell? a = some u:=by
 obtain ⟨u,hu⟩:=h
 by_cases hp:p = a
 ·subst hp
  exact ⟨v,World.cell?_setCell_same w _ v hu⟩
 ·exact ⟨u,(World.cell?_setCell_other (w:=w) (a:=p) (b:=a) (v:=v) hp).trans hu⟩

end Go.Proofs.YtbiacfkiakddiaaGreat

namespace Go.Proofs.YtbiacfkiakddiaaGreat
open Go.RowKit Go.Fl
/-- A node that can be marked. -/
def NodeM (G o hi:Nat) (w:World):Prop:=(∃ v,w.cell? ⟨G,o,none⟩ = some v) ∧ (∃ v,w.cell? ⟨G,o + 1,none⟩ = some v) ∧ (∃ v,w.cell? ⟨G,o + 2,none⟩ = some v) ∧ ∃ g n,G < g ∧ g < hi ∧ n ≤ 1048576 ∧ w.cell? ⟨G,o + 3,none⟩ = some (.slice (some ⟨g,0,none⟩) n n) ∧ Cells g n w ∧ ∀ j,w.frozen? ⟨g,j,none⟩ = false
theorem NodeM.set {G o hi:Nat} {w:World} (h:NodeM G o hi w) (j:Nat) (hj:j ≠ o + 3) (v:Value):NodeM G o hi (w.setCell ⟨G,j,none⟩ v):=by
 obtain ⟨h1,h2,h3,g,n,h4,h5,h6,h7,h8,h9⟩:=h
 exact ⟨some_set h1,some_set h2,some_set h3,g,n,h4,h5,h6,(World.cell?_setCell_other (w:=w) (a:=⟨G,j,none⟩) (b:=⟨G,o + 3,none⟩) (v:=v) (by intro e;injection e with _ e;omega)).trans h7,h8.set _ _,fun i => by rw [World.frozen?_setCell];exact h9 i⟩
end Go.Proofs.YtbiacfkiakddiaaGreat

namespace Go.Proofs.YtbiacfkiakddiaaGreat
open Go.RowKit Go.Fl
/-- The words of a statement's slots: a shape that is new;a result in memory. -/
def GdW (ns:List PN) (sl:List Tmp) (rs:Tmp) (Res:Value → World → Prop) (d:Tmp) (v:Value) (w:World):Prop :=
 (d ∈ sl → ∀ G,v = .agg #[.slice (some ⟨G,0,none⟩) ns.length ns.length] → ∀ i (h:i < ns.length),NodeNew ns[i] G (0 + i * 4) w) ∧ (d = rs → v = undef ∨ Res v w)
theorem gdw_lasts (ns:List PN) (sl:List Tmp) (rs:Tmp) {Res:Value → World → Prop} (hR:∀ v w w',Res v w → Below w.heap.size w w' → Res v w'):Qg.Lasts (GdW ns sl rs Res) :=
 ⟨fun d v w w' h hb => ⟨fun hd G hv i hi => (h.1 hd G hv i hi).keep hb,fun hd => (h.2 hd).imp id fun h => hR _ _ _ h hb⟩,fun d w => ⟨fun _ G hv => (by cases hv),fun _ => .inl rfl⟩⟩
theorem gdw_start {ns:List PN} {sl:List Tmp} {rs:Tmp} {Res:Value → World → Prop} {a:Act} {w:World} (h:∀ d ∈ sl ++ [rs],a.tmps.getD d undef = undef):Qg.E (GdW ns sl rs Res) [] a w :=
 ⟨fun d => ⟨fun hd G hv => (by rw [h d (by simp [hd])] at hv;cases hv),fun hd => .inl (by rw [h d (by simp [hd])])⟩,fun d hd => (by cases hd),fun d hd => (by cases hd)⟩
theorem gdw_no {ns:List PN} {sl:List Tmp} {rs:Tmp} {Res:Value → World → Prop} {d:Tmp} {v:Value} {w:World} (h1:d ∉ sl) (h2:d ≠ rs):Qg.gd (GdW ns sl rs Res) (some d) v w :=
 ⟨fun h => absurd h h1,fun h => absurd h h2⟩
theorem gdw_res {ns:List PN} {sl:List Tmp} {rs:Tmp} {Res:Value → World → Prop} {v:Value} {w:World} (h1:rs ∉ sl) (h:Res v w):Qg.gd (GdW ns sl rs Res) (some rs) v w :=
 ⟨fun h => absurd h h1,fun _ => .inr h⟩

/-- A result that is told with a truth value. -/
def Rs2 (bv:Bool) (P:Value → World → Prop) (v:Value) (w:World):Prop:=∀ u,v = .tuple #[u,.bool bv] → P u w
theorem Rs2.mk {bv:Bool} {P:Value → World → Prop} {u:Value} {w:World} (h:P u w):Rs2 bv P (.tuple #[u,.bool bv]) w:=fun u' hu => by
 injection hu with hu;injection hu with hu;injection hu with hu _;rw [← hu];exact h
theorem Rs2.keep {bv:Bool} {P:Value → World → Prop} (hP:∀ v w w',P v w → Below w.heap.size w w' → P v w') (v:Value) (w w':World) (h:Rs2 bv P v w) (hb:Below w.heap.size w w'):Rs2 bv P v w':=fun u hu => hP _ _ _ (h u hu) hb

/-- A shape that can be marked. -/
def ShW (n G hi:Nat) (w:World):Prop:=G < w.heap.size ∧ (∀ i,i < n → NodeM G (i * 4) hi w) ∧ ∀ o,w.frozen? ⟨G,o,none⟩ = false
theorem NodeM.keep {G o hi:Nat} {w w':World} (h:NodeM G o hi w) (hb:Below w.heap.size w w') (hh:hi ≤ w.heap.size):NodeM G o hi w':=by
 have l:=fun a (h:∃ v,w.cell? a = some v) => (show ∃ v,w'.cell? a = some v by obtain ⟨v,hv⟩:=h;exact ⟨v,by rw [lift hb a (by rw [hv];rfl)];exact hv⟩)
 obtain ⟨h1,h2,h3,g,n,h4,h5,h6,h7,h8,h9⟩:=h
 exact ⟨l _ h1,l _ h2,l _ h3,g,n,h4,h5,h6,by rw [lift hb _ (by rw [h7];rfl)];exact h7,fun i hi => l _ (h8 i hi),fun j => by rw [froz_keep (by omega) hb];exact h9 j⟩
theorem ShW.keep {n G hi:Nat} {w w':World} (h:ShW n G hi w) (hb:Below w.heap.size w w') (hh:hi ≤ w.heap.size):ShW n G hi w' :=
 ⟨Nat.lt_of_lt_of_le h.1 hb.size,fun i hi => (h.2.1 i hi).keep hb hh,fun o => by rw [froz_keep h.1 hb];exact h.2.2 o⟩
end Go.Proofs.YtbiacfkiakddiaaGreat

namespace Go.Proofs.YtbiacfkiakddiaaGreat
open Go.RowKit Go.Fl
def facV (n:PN) (L:List Nat):Nat :=
 match n.kind,n.nums.map (cn .f32) with
 | 4,[a,b,c,_] => longF a b c
 | 11,[a,b,c] => B .mul (L.getD n.a.toNat 0) (greaterF (greaterF (B .quo (cn .f32 1065353216) a) (B .quo (cn .f32 1065353216) b)) (B .quo (cn .f32 1065353216) c))
 | _,_ => if (ruleF n.kind).2.1 = 1 then L.getD n.a.toNat 0 else if (ruleF n.kind).2.1 = 2 then greaterF (L.getD n.a.toNat 0) (L.getD n.b.toNat 0) else cn .f32 1065353216
def facs (ns:List PN):Nat → List Nat
 | 0 => []
 | m + 1 => match ns[m]? with
  | none => facs ns m
  | some n => facs ns m ++ [facV n (facs ns m)]

theorem facV_def {n:PN} {L:List Nat} (h4:n.kind ≠ 4) (h11:n.kind ≠ 11):facV n L = if (ruleF n.kind).2.1 = 1 then L.getD n.a.toNat 0 else if (ruleF n.kind).2.1 = 2 then greaterF (L.getD n.a.toNat 0) (L.getD n.b.toNat 0) else cn .f32 1065353216:=by
 unfold facV
 split
 ·exact absurd (by assumption) h4
 ·exact absurd (by assumption) h11
 ·rfl

set_option maxRecDepth 100000 in
set_option maxHeartbeats 4000000 in
theorem factor_any (ns:List PN) (hok:OkAll ns) (hl:1 ≤ ns.length ∧ ns.length ≤ 16) (sb so nb no cap:Nat) (w:World) (hsh:ShapeIn ns sb so nb no cap w) :
  Calls Tryz.prog 268 #[.pointer (some ⟨sb,so,none⟩)] w (Ret .f32 ((facs ns ns.length).getD (ns.length - 1) 0) w):=by
 have hlist:=hsh.list
 have hsb:sb < w.heap.size:=some_lt (a:=⟨sb,so,none⟩) (by rw [hlist];rfl)
 obtain ⟨i0,hi,hz0,hz1,hz2⟩:=info_parts float_info
 have hw2:w.heap.size ≤ w.heap.size:=Nat.le_refl _
 go_enter Tryz.func268,Tryz.ntmps268
 go_wp2_with fail
 go_loopw [3,14] (fun v i wr => ∃ (m:Nat) (xs:List Nat),m ≤ ns.length ∧ i = .int .i64 (m:Int) ∧ wr.ownsRow w.heap.size 25 1 v m (fl xs) ∧ xs.map (cn .f32) = facs ns m ∧ Below w.heap.size w wr) (fun _ i _ => ns.length - (intOf i).toNat)
 case atStart =>
  exact ⟨0,[],by omega,rfl,World.ownsRow_lit w #[] 0 (Nat.le_refl _) (by unfold maxLen;omega) rfl,rfl,(Below.refl _ _).alloc (Nat.le_refl _) _⟩
 case round =>
  obtain ⟨m,xs,hm,rfl,hown,hxs,Wb⟩:=hrel
  by_cases hlt:m < ns.length
  ·have hlt':(m:Int) < (ns.length:Int):=by omega
   have h0:(0:Int) ≤ (m:Int):=by omega
   have hn:=(hsh.node m hlt).keep Wb
   have hSr:=(hsh.keep Wb).list
   obtain ⟨hokn,hca,hcb⟩:=hok m hlt
   have hall:facs ns (m + 1) = facs ns m ++ [facV ns[m] (facs ns m)]:=by rw [facs,List.getElem?_eq_getElem hlt]
   generalize ns[m] = n at *
   obtain ⟨bp,bv,ov,cp,hnum,hnp,hnc⟩:=hn.nums
   have hkind:=hn.kind
   have hA:=hn.a
   have hB:=hn.b
   have hlen:xs.length = m:=by have:=hown.1;simpa using this
   have hHall:=Lib.hid hall
   have hHxs:=Lib.hid hxs
   clear hall hxs hsh hok hlist
   go_upto_region 8 with (go_at_call 93;refine (children_any nb (no + m * 4) n.kind n.a n.b _ hkind hA hB).mono ?_;rintro _ w4 ⟨g,rfl,hc0,hc1,hg,hb4⟩)
   have hkept:Kept [(⟨nb,no + m * 4,none⟩,.int .i64 n.kind),(⟨nb,no + m * 4 + 1,none⟩,.int .i64 n.a),(⟨nb,no + m * 4 + 2,none⟩,.int .i64 n.b),(⟨nb,no + m * 4 + 3,none⟩,.slice bp n.nums.length cp)] [] wr:=by
    simp only [Kept,ka,kb,kc,kd,ke,kfa,kga]
    exact ⟨hkind,hA,hB,hnum⟩
   have hkept:=keep hkept hb4
   have hnc4:∀ i (h:i < n.nums.length),w4.cell? ⟨bv,ov + i,none⟩ = some (F1 n.nums[i]):=fun i h => by rw [lift hb4 _ (by rw [hnc i h];rfl)];exact hnc i h
   have hown4:=owns_below hown hb4
   have W4b:=below_step Wb hb4
   have hFV:Hid (facs ns (m + 1) = facs ns m ++ [facV n (facs ns m)]):=hHall
   have hs4:=W4b.size
   clear hkind hA hB hnum hnc hc0 hc1 hn hHall hSr hsb hi hz0 hz1 hz2
   have hokk:=hokn.kind
   have hoknn:=hokn.nums
   by_cases hk4:n.kind = 4
   ·obtain ⟨a,b,c,d,e4⟩:=len4 (l:=n.nums) (by rw [hoknn,hk4];rfl)
    have hFV4:Hid (facV n (facs ns m) = longF (cn .f32 a) (cn .f32 b) (cn .f32 c)):=by unfold Hid facV;rw [hk4,e4];rfl
    have hbp:=hnp (by rw [e4];simp)
    subst hbp
    have q0:=hnc4 0 (by rw [e4];simp)
    have q1:=hnc4 1 (by rw [e4];simp)
    have q2:=hnc4 2 (by rw [e4];simp)
    simp only [e4,List.getElem_cons_zero,List.getElem_cons_succ] at q0 q1 q2
    rw [hk4,e4] at hkept
    rw [Nat.add_zero] at q0
    have hkept:=kept_app hkept (show Kept [(⟨bv,ov,none⟩,F1 a),(⟨bv,ov + 1,none⟩,F1 b),(⟨bv,ov + 2,none⟩,F1 c)] [] w4 by simp only [Kept,ka,kb,kc,kd,ke,kfa,kga];exact ⟨q0,q1,q2⟩)
    clear q0 q1 q2 hnc4 hnp hca hcb hokn e4 hokk hoknn
    have hK:=hkept;simp only [Kept,ka,kb,kc,kd,ke,kfa,kga] at hK
    go_upto_region 9 with fail
    clear hK
    refine Qr.wp_below_all (by kernel_rfl) (by kernel_rfl) PhiF ?_
    repeat (first | (refine Qr.walk_plain rfl fun K hK => ?_;apply Qr.one_det;(focus (intro w' hw';have HK:=keep hkept hw';simp only [Kept,ka,kb,kc,kd,ke,kfa,kga] at HK;go_simp;first | done | rfl));go_simp;refine hK _ ?_;clear hK K) | (refine Qr.walk_plain rfl fun K hK => ?_;apply Qr.one_call;(focus (intro w' hw';go_simp;first | done | exact ⟨rfl,rfl⟩));(focus (intro w' hw'; go_at_call 250;refine (long_any _ _ _ _).mono ?_;rintro _ w2 ⟨r1,rfl,hr1,hb1⟩ ;exact ⟨_,rfl,by constructor <;> assumption,below_step hw' (by assumption),by assumption⟩));intro v hv;cases hv;go_simp;refine hK _ ?_;clear hK K))
    rename_i r1 hr1
    have hFVk:=hFV4
    refine Qr.walk_nil fun w6 hw6 => ?_
    have hown6:=owns_below hown4 hw6
    have W6b:=below_step W4b hw6
    have hs6:=W6b.size
    go_wp2_with (at_builtin;refine wp_appF w.heap.size rfl (.tmp 118) (.tmp 120) rfl _ m xs rfl (hown6.alloc _) w6.heap.size r1 rfl (by simp) (by omega) (by simp;omega) ?_;intro v5 w5 hown5 hg5)
    exact ⟨⟨m + 1,xs ++ [r1],by omega,by simp,hown5,by rw [List.map_append,hHxs.out,hFV.out,hFVk.out];simp only [List.map_cons,List.map_nil,hr1],grown_below (W6b.alloc hs6 _) (hown6.alloc _) hg5 hw2⟩,by simp [intOf];omega⟩
   have hkd:=kids_cases n.kind
   by_cases hc0:(ruleF n.kind).2.1 = 0
   ·have hk11:n.kind ≠ 11:=by intro e;rw [e] at hc0;revert hc0;decide
    have hFVk:Hid (facV n (facs ns m) = cn .f32 1065353216):=by unfold Hid;rw [facV_def hk4 hk11,hc0];rfl
    have hK:=hkept;simp only [Kept,ka,kb,kc,kd,ke,kfa,kga] at hK
    clear hnp hca hcb hokn hokk hoknn hnc4 hkept hkd
    obtain ⟨r1,hr1,hr1e⟩:∃ r1,cn .f32 r1 = cn .f32 1065353216 ∧ r1 = 1065353216:=⟨_,rfl,rfl⟩
    have hw6:=Below.refl w4.heap.size w4
    have hr1e:=Lib.hid hr1e
    obtain ⟨w6,hw6e⟩:∃ w6,w6 = w4:=⟨_,rfl⟩
    have hown6:=hown4
    go_wp2_with (at_builtin;refine wp_appF w.heap.size rfl (.tmp 118) (.tmp 120) rfl _ m xs rfl (hown6.alloc _) w4.heap.size 1065353216 rfl (by simp) (by omega) (by simp;omega) ?_;intro v5 w5 hown5 hg5)
    exact ⟨⟨m + 1,xs ++ [1065353216],by omega,by simp,hown5,by rw [List.map_append,hHxs.out,hFV.out,hFVk.out];simp only [List.map_cons,List.map_nil],grown_below (W4b.alloc hs4 _) (hown6.alloc _) hg5 hw2⟩,by simp [intOf];omega⟩
   have haa:=hca hc0
   obtain ⟨ca,hcaI⟩:=Int.eq_ofNat_of_zero_le haa.1
   have hcal:ca < m:=by omega
   have hcaL:(ca:Int) < (m:Int):=by omega
   obtain ⟨g6,cap6,rfl,hg6,hg6s⟩:=hown4.form (by omega)
   have hcA:=hown4.cellAt ca (by omega)
   rw [show (fl xs)[ca]? = some (F1 xs[ca]) by simp [fl]] at hcA
   have hHa:Hid (n.a.toNat = ca):=by unfold Hid;rw [hcaI];rfl
   have hgetA:Hid ((facs ns m).getD ca 0 = cn .f32 xs[ca]):=by unfold Hid;rw [← hHxs.out,List.getD_eq_getElem?_getD,List.getElem?_map,List.getElem?_eq_getElem (show ca < xs.length by omega)];rfl
   have hxa:xs[ca] = xs[ca]:=rfl
   generalize xs[ca] = va at hcA hgetA
   rw [hcaI] at hkept
   have hkept:=kept_app hkept (show Kept [(⟨g6,ca,none⟩,F1 va)] [] w4 by simp only [Kept,ka,kb,kc,kd,ke,kfa,kga];exact hcA)
   clear hxa hcA haa hcaI
   by_cases hk11:n.kind = 11
   ·obtain ⟨a,b,c,e4⟩:=len3 (l:=n.nums) (by rw [hoknn,hk11];rfl)
    have hFVk:Hid (facV n (facs ns m) = B .mul (cn .f32 va) (greaterF (greaterF (B .quo (cn .f32 1065353216) (cn .f32 a)) (B .quo (cn .f32 1065353216) (cn .f32 b))) (B .quo (cn .f32 1065353216) (cn .f32 c)))):=by unfold Hid facV;rw [hk11,e4,← hgetA.out,← hHa.out];rfl
    have hbp:=hnp (by rw [e4];simp)
    subst hbp
    have q0:=hnc4 0 (by rw [e4];simp)
    have q1:=hnc4 1 (by rw [e4];simp)
    have q2:=hnc4 2 (by rw [e4];simp)
    simp only [e4,List.getElem_cons_zero,List.getElem_cons_succ] at q0 q1 q2
    rw [hk11,e4] at hkept
    rw [Nat.add_zero] at q0
    have hkept:=kept_app hkept (show Kept [(⟨bv,ov,none⟩,F1 a),(⟨bv,ov + 1,none⟩,F1 b),(⟨bv,ov + 2,none⟩,F1 c)] [] w4 by simp only [Kept,ka,kb,kc,kd,ke,kfa,kga];exact ⟨q0,q1,q2⟩)
    clear q0 q1 q2 hnc4 hnp hca hcb hokn e4 hokk hoknn hkd hc0 hk4
    have hK:=hkept;simp only [Kept,ka,kb,kc,kd,ke,kfa,kga] at hK
    go_upto_region 11 with fail
    clear hK
    refine Qr.wp_below_all (by kernel_rfl) (by kernel_rfl) PhiF ?_
    repeat (first | (refine Qr.walk_plain rfl fun K hK => ?_;refine one_bin _ _ _ _ _ rfl _ _ _ rfl rfl rfl (fun r hr => ?_);go_simp;refine hK _ ?_;clear hK K) | (refine Qr.walk_plain rfl fun K hK => ?_;apply Qr.one_det;(focus (intro w' hw';have HK:=keep hkept hw';simp only [Kept,ka,kb,kc,kd,ke,kfa,kga] at HK;go_simp;first | done | rfl));go_simp;refine hK _ ?_;clear hK K) | (refine Qr.walk_plain rfl fun K hK => ?_;apply Qr.one_call;(focus (intro w' hw';go_simp;first | done | exact ⟨rfl,rfl⟩));(focus (intro w' hw'; go_at_call 222;refine (greater_any _ _ _).mono ?_;rintro _ w2 ⟨r1,rfl,hr1,hb1⟩ ;exact ⟨_,rfl,by constructor <;> assumption,below_step hw' (by assumption),by assumption⟩));intro v hv;cases hv;go_simp;refine hK _ ?_;clear hK K))
    rename_i q1 hq1 q2 hq2 g1 hg1 q3 hq3 g2 hg2
    have hr1:cn .f32 r = B .mul (cn .f32 va) (greaterF (greaterF (B .quo (cn .f32 1065353216) (cn .f32 a)) (B .quo (cn .f32 1065353216) (cn .f32 b))) (B .quo (cn .f32 1065353216) (cn .f32 c))):=by rw [hr,hg2,hg1,hq3,hq2,hq1]
    clear hq1 hq2 hg1 hq3 hg2 hr
    refine Qr.walk_nil fun w6 hw6 => ?_
    have hown6:=owns_below hown4 hw6
    have W6b:=below_step W4b hw6
    have hs6:=W6b.size
    go_wp2_with (at_builtin;refine wp_appF w.heap.size rfl (.tmp 118) (.tmp 120) rfl _ m xs rfl (hown6.alloc _) w6.heap.size r rfl (by simp) (by omega) (by simp;omega) ?_;intro v5 w5 hown5 hg5)
    exact ⟨⟨m + 1,xs ++ [r],by omega,by simp,hown5,by rw [List.map_append,hHxs.out,hFV.out,hFVk.out];simp only [List.map_cons,List.map_nil,hr1],grown_below (W6b.alloc hs6 _) (hown6.alloc _) hg5 hw2⟩,by simp [intOf];omega⟩
   have hd:=facV_def (L:=facs ns m) hk4 hk11
   by_cases hc1:(ruleF n.kind).2.1 = 1
   ·have hFVk:Hid (facV n (facs ns m) = cn .f32 va):=by unfold Hid;rw [hd,hc1,if_pos rfl,hHa.out,hgetA.out]
    have hK:=hkept;simp only [Kept,ka,kb,kc,kd,ke,kfa,kga] at hK
    clear hnp hca hcb hokn hokk hoknn hnc4 hkept hkd hd hc0
    go_wp2_with (at_builtin;refine wp_appF w.heap.size rfl (.tmp 118) (.tmp 120) rfl _ m xs rfl (hown4.alloc _) w4.heap.size va rfl (by simp) (by omega) (by simp;omega) ?_;intro v5 w5 hown5 hg5)
    exact ⟨⟨m + 1,xs ++ [va],by omega,by simp,hown5,by rw [List.map_append,hHxs.out,hFV.out,hFVk.out];simp only [List.map_cons,List.map_nil],grown_below (W4b.alloc hs4 _) (hown4.alloc _) hg5 hw2⟩,by simp [intOf];omega⟩
   have hc2:(ruleF n.kind).2.1 = 2:=by omega
   have hbb:=hcb hc2
   obtain ⟨cb,hcbI⟩:=Int.eq_ofNat_of_zero_le hbb.1
   have hcbl:cb < m:=by omega
   have hcbL:(cb:Int) < (m:Int):=by omega
   have hcB:=hown4.cellAt cb (by omega)
   rw [show (fl xs)[cb]? = some (F1 xs[cb]) by simp [fl]] at hcB
   have hHb:Hid (n.b.toNat = cb):=by unfold Hid;rw [hcbI];rfl
   have hgetB:Hid ((facs ns m).getD cb 0 = cn .f32 xs[cb]):=by unfold Hid;rw [← hHxs.out,List.getD_eq_getElem?_getD,List.getElem?_map,List.getElem?_eq_getElem (show cb < xs.length by omega)];rfl
   have hxb:xs[cb] = xs[cb]:=rfl
   generalize xs[cb] = vb at hcB hgetB
   rw [hcbI] at hkept
   have hkept:=kept_app hkept (show Kept [(⟨g6,cb,none⟩,F1 vb)] [] w4 by simp only [Kept,ka,kb,kc,kd,ke,kfa,kga];exact hcB)
   have hFVk:Hid (facV n (facs ns m) = greaterF (cn .f32 va) (cn .f32 vb)):=by unfold Hid;rw [hd,hc2,hHa.out,hgetA.out,hHb.out,hgetB.out];rfl
   clear hxb hcB hbb hcbI
   have hK:=hkept;simp only [Kept,ka,kb,kc,kd,ke,kfa,kga] at hK
   clear hnp hca hcb hokn hokk hoknn hnc4 hkd hd hc0 hc1
   go_upto_region 15 with fail
   clear hK
   refine Qr.wp_below_all (by kernel_rfl) (by kernel_rfl) PhiF ?_
   repeat (first | (refine Qr.walk_plain rfl fun K hK => ?_;apply Qr.one_det;(focus (intro w' hw';have HK:=keep hkept hw';simp only [Kept,ka,kb,kc,kd,ke,kfa,kga] at HK;go_simp;first | done | rfl));go_simp;refine hK _ ?_;clear hK K) | (refine Qr.walk_plain rfl fun K hK => ?_;apply Qr.one_call;(focus (intro w' hw';go_simp;first | done | exact ⟨rfl,rfl⟩));(focus (intro w' hw'; go_at_call 222;refine (greater_any _ _ _).mono ?_;rintro _ w2 ⟨r1,rfl,hr1,hb1⟩ ;exact ⟨_,rfl,by constructor <;> assumption,below_step hw' (by assumption),by assumption⟩));intro v hv;cases hv;go_simp;refine hK _ ?_;clear hK K))
   rename_i r1 hr1
   refine Qr.walk_nil fun w6 hw6 => ?_
   ·have hown6:=owns_below hown4 hw6
    have W6b:=below_step W4b hw6
    have hs6:=W6b.size
    go_wp2_with (at_builtin;refine wp_appF w.heap.size rfl (.tmp 118) (.tmp 120) rfl _ m xs rfl (hown6.alloc _) w6.heap.size r1 rfl (by simp) (by omega) (by simp;omega) ?_;intro v5 w5 hown5 hg5)
    exact ⟨⟨m + 1,xs ++ [r1],by omega,by simp,hown5,by rw [List.map_append,hHxs.out,hFV.out,hFVk.out];simp only [List.map_cons,List.map_nil,hr1],grown_below (W6b.alloc hs6 _) (hown6.alloc _) hg5 hw2⟩,by simp [intOf];omega⟩
  ·obtain rfl:m = ns.length:=by omega
   have hHxs:=Lib.hid hxs
   have hSr:=(hsh.keep Wb).list
   clear hxs hsh hok hsb hi hz0 hz1 hz2 hlist
   have hlen:xs.length = ns.length:=by have:=hown.1;simpa using this
   obtain ⟨g6,cap6,rfl,hg6,hg6s⟩:=hown.form (by omega)
   have hcA:=hown.cellAt (ns.length - 1) (by omega)
   rw [show (fl xs)[ns.length - 1]? = some (F1 (xs[ns.length - 1]'(by omega))) by simp [fl]] at hcA
   have hget:Hid ((facs ns ns.length).getD (ns.length - 1) 0 = cn .f32 (xs[ns.length - 1]'(by omega))):=by unfold Hid;rw [← hHxs.out,List.getD_eq_getElem?_getD,List.getElem?_map,List.getElem?_eq_getElem (show ns.length - 1 < xs.length by omega)];rfl
   generalize xs[ns.length - 1]'(by omega) = va at hcA hget
   have hlast:wrap64 ((ns.length:Int) - 1) = ((ns.length - 1:Nat):Int):=by unfold wrap64;omega
   have hl1:((ns.length - 1:Nat):Int) < (ns.length:Int):=by omega
   have hl0:(0:Int) ≤ ((ns.length - 1:Nat):Int):=by omega
   generalize ns.length - 1 = e at *
   go_wp2_with (go_at_call 83;refine (last_any sb so (some ⟨nb,no,none⟩) ns.length cap _ hSr).mono ?_;rintro _ w4 ⟨rfl,rfl⟩;rw [hlast])
   go_ret
   exact ⟨_,rfl,hget.out.symm,Wb⟩
end Go.Proofs.YtbiacfkiakddiaaGreat
