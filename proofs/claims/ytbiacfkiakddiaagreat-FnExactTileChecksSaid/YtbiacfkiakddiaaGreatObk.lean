/-
 Lemmas: Rr,Rw,S15,L2.
-/
import Derived.Test.YtbiacfkiakddiaaGreatObj
set_option linter.unusedVariables false
set_option linter.unusedSimpArgs false
namespace Go.Proofs.YtbiacfkiakddiaaGreat
open Go.RowKit Go.Fl Go.ChangeShapes Go.WideShapes Go.ChangeAt
theorem and_mk {a b:Bool} (h:a = true) (k:b = true):(a && b) = true:=by rw [h,k];rfl
set_option maxRecDepth 100000 in
/-- Three cells of a vector. -/
theorem trod_vec {H:Type} {enc:TypeId × Value → H} {w:World} {base fuel:Nat} {spare:Nat → Bool} {held:Bool} {c0 c1 c2:Value} {x:DataW H × List MemPlace} (h:DataW.trod enc Tryz.prog w base spare held fuel 27 [c0,c1,c2] = some x) :
  ∃ a b c:Nat,c0 = F1 a ∧ c1 = F1 b ∧ c2 = F1 c:=by
 obtain ⟨ys,n',-,-,-,hyl,hg⟩:=DataW.trod_struct Tryz.underlying27 h
 obtain ⟨y0,y1,y2,rfl⟩:=three (hyl.trans rfl)
 have t0:DataW.trod enc Tryz.prog w base spare held n' 25 [c0] = some y0:=hg 0 _ rfl
 have t1:DataW.trod enc Tryz.prog w base spare held n' 25 [c1] = some y1:=hg 1 _ rfl
 have t2:DataW.trod enc Tryz.prog w base spare held n' 25 [c2] = some y2:=hg 2 _ rfl
 obtain ⟨x,e0⟩:=trod_flt Tryz.underlying25 t0
 obtain ⟨y,e1⟩:=trod_flt Tryz.underlying25 t1
 obtain ⟨z,e2⟩:=trod_flt Tryz.underlying25 t2
 injection e0 with e0
 injection e1 with e1
 injection e2 with e2
 exact ⟨x,y,z,e0,e1,e2⟩

end Go.Proofs.YtbiacfkiakddiaaGreat

namespace Go.Proofs.YtbiacfkiakddiaaGreat
open Go.RowKit Go.Fl Go.ChangeShapes Go.WideShapes Go.ChangeAt
theorem quad4 {α:Type} {l:List α} (h:l.length = 4):∃ a b c d,l = [a,b,c,d]:=by
 match l,h with
 | [a,b,c,d],_ => exact ⟨a,b,c,d,rfl⟩
theorem quin5 {α:Type} {l:List α} (h:l.length = 5):∃ a b c d e,l = [a,b,c,d,e]:=by
 match l,h with
 | [a,b,c,d,e],_ => exact ⟨a,b,c,d,e,rfl⟩
theorem sixteen {α:Type} {l:List α} (h:l.length = 16):∃ a b c d e f g h i j k m n o p q,l = [a,b,c,d,e,f,g,h,i,j,k,m,n,o,p,q]:=by
 match l,h with
 | [a,b,c,d,e,f,g,h,i,j,k,m,n,o,p,q],_ => exact ⟨a,b,c,d,e,f,g,h,i,j,k,m,n,o,p,q,rfl⟩

set_option maxRecDepth 100000 in
theorem trod_sh {H:Type} {enc:TypeId × Value → H} {w:World} {base fuel:Nat} {spare:Nat → Bool} {held:Bool} {c0:Value} {x:DataW H × List MemPlace} (h:DataW.trod enc Tryz.prog w base spare held fuel 24 [c0] = some x) :
  ∃ (ns:List PN) (bp:Option Addr) (nb no cap:Nat),c0 = .slice bp ns.length cap ∧ NodesIn ns bp nb no w:=by
 obtain ⟨ys,n',-,-,-,hyl,hg⟩:=DataW.trod_struct Tryz.underlying24 h
 obtain ⟨y0,rfl⟩:=uno (hyl.trans rfl)
 have t0:DataW.trod enc Tryz.prog w base spare held n' 22 [c0] = some y0:=hg 0 _ rfl
 obtain ⟨ns,bp,nb,no,cap,e,hns⟩:=open_nodes t0
 injection e with e
 exact ⟨ns,bp,nb,no,cap,e,hns⟩

set_option maxRecDepth 100000 in
theorem trod_mar {H:Type} {enc:TypeId × Value → H} {w:World} {base fuel:Nat} {spare:Nat → Bool} {held:Bool} {c0 c1 c2:Value} {x:DataW H × List MemPlace} (h:DataW.trod enc Tryz.prog w base spare held fuel 76 [c0,c1,c2] = some x) :
  ∃ (a b:Nat) (n:Int),c0 = F1 a ∧ c1 = F1 b ∧ c2 = .int .i64 n:=by
 obtain ⟨ys,n',-,-,-,hyl,hg⟩:=DataW.trod_struct Tryz.underlying76 h
 obtain ⟨y0,y1,y2,rfl⟩:=three (hyl.trans rfl)
 have t0:DataW.trod enc Tryz.prog w base spare held n' 25 [c0] = some y0:=hg 0 _ rfl
 have t1:DataW.trod enc Tryz.prog w base spare held n' 25 [c1] = some y1:=hg 1 _ rfl
 have t2:DataW.trod enc Tryz.prog w base spare held n' 2 [c2] = some y2:=hg 2 _ rfl
 obtain ⟨x,e0⟩:=trod_flt Tryz.underlying25 t0
 obtain ⟨y,e1⟩:=trod_flt Tryz.underlying25 t1
 obtain ⟨n,e2⟩:=trod_i64 t2
 injection e0 with e0
 injection e1 with e1
 injection e2 with e2
 exact ⟨x,y,n,e0,e1,e2⟩

set_option maxRecDepth 100000 in
theorem trod_cam {H:Type} {enc:TypeId × Value → H} {w:World} {base fuel:Nat} {spare:Nat → Bool} {held:Bool} {c0 c1 c2 c3 c4 c5 c6 c7 c8:Value} {x:DataW H × List MemPlace} (h:DataW.trod enc Tryz.prog w base spare held fuel 74 [c0,c1,c2,c3,c4,c5,c6,c7,c8] = some x) :
  ∃ (a b c d e f wd:Nat) (nx ny:Int),c0 = F1 a ∧ c1 = F1 b ∧ c2 = F1 c ∧ c3 = F1 d ∧ c4 = F1 e ∧ c5 = F1 f ∧ c6 = F1 wd ∧ c7 = .int .i64 nx ∧ c8 = .int .i64 ny:=by
 obtain ⟨ys,n',-,-,-,hyl,hg⟩:=DataW.trod_struct Tryz.underlying74 h
 obtain ⟨y0,y1,y2,y3,y4,rfl⟩:=quin5 (hyl.trans rfl)
 have t0:DataW.trod enc Tryz.prog w base spare held n' 27 [c0,c1,c2] = some y0:=hg 0 _ rfl
 have t1:DataW.trod enc Tryz.prog w base spare held n' 27 [c3,c4,c5] = some y1:=hg 1 _ rfl
 have t2:DataW.trod enc Tryz.prog w base spare held n' 25 [c6] = some y2:=hg 2 _ rfl
 have t3:DataW.trod enc Tryz.prog w base spare held n' 2 [c7] = some y3:=hg 3 _ rfl
 have t4:DataW.trod enc Tryz.prog w base spare held n' 2 [c8] = some y4:=hg 4 _ rfl
 obtain ⟨a,b,c,e0,e1,e2⟩:=trod_vec t0
 obtain ⟨d,e,f,e3,e4,e5⟩:=trod_vec t1
 obtain ⟨wd,e6⟩:=trod_flt Tryz.underlying25 t2
 obtain ⟨nx,e7⟩:=trod_i64 t3
 obtain ⟨ny,e8⟩:=trod_i64 t4
 injection e6 with e6
 injection e7 with e7
 injection e8 with e8
 exact ⟨a,b,c,d,e,f,wd,nx,ny,e0,e1,e2,e3,e4,e5,e6,e7,e8⟩

set_option maxRecDepth 100000 in
theorem open_view {H:Type} {enc:TypeId × Value → H} {w:World} {base b0:Nat} {r:Reach} {spare:Nat → Bool} {held:Bool} {v:Value} {d:DataW H} {p:List MemPlace} (hv:Value.okWide Tryz.prog w r b0 78 v) (h:DataW.Trod enc Tryz.prog w base spare held 78 v d p) :
  ∃ (ns:List PN) (bp:Option Addr) (nb no cap a b c d e f wd:Nat) (nx ny:Int) (lx ly lz near most:Nat) (st:Int),v = .agg #[.slice bp ns.length cap,F1 a,F1 b,F1 c,F1 d,F1 e,F1 f,F1 wd,.int .i64 nx,.int .i64 ny,F1 lx,F1 ly,F1 lz,F1 near,F1 most,.int .i64 st] ∧ NodesIn ns bp nb no w:=by
 obtain ⟨cs,rfl,hsz⟩:=okWide_struct Tryz.underlying78 hv
 have hC:Tryz.prog.cellsOf 78 = 16:=by kernel_rfl
 obtain ⟨l⟩:=cs
 obtain ⟨c0,c1,c2,c3,c4,c5,c6,c7,c8,c9,c10,c11,c12,c13,c14,c15,rfl⟩:=sixteen (show l.length = 16 from hsz.trans hC)
 obtain ⟨fuel,hf⟩:=h
 obtain ⟨ys,n',-,-,-,hyl,hg⟩:=DataW.trod_struct Tryz.underlying78 hf
 obtain ⟨y0,y1,y2,y3,rfl⟩:=quad4 (hyl.trans rfl)
 have t0:DataW.trod enc Tryz.prog w base spare held n' 24 [c0] = some y0:=hg 0 _ rfl
 have t1:DataW.trod enc Tryz.prog w base spare held n' 74 [c1,c2,c3,c4,c5,c6,c7,c8,c9] = some y1:=hg 1 _ rfl
 have t2:DataW.trod enc Tryz.prog w base spare held n' 27 [c10,c11,c12] = some y2:=hg 2 _ rfl
 have t3:DataW.trod enc Tryz.prog w base spare held n' 76 [c13,c14,c15] = some y3:=hg 3 _ rfl
 obtain ⟨ns,bp,nb,no,cap,e0,hns⟩:=trod_sh t0
 obtain ⟨a,b,c,d',e,f,wd,nx,ny,e1,e2,e3,e4,e5,e6,e7,e8,e9⟩:=trod_cam t1
 obtain ⟨lx,ly,lz,e10,e11,e12⟩:=trod_vec t2
 obtain ⟨near,most,st,e13,e14,e15⟩:=trod_mar t3
 exact ⟨ns,bp,nb,no,cap,a,b,c,d',e,f,wd,nx,ny,lx,ly,lz,near,most,st,by rw [e0,e1,e2,e3,e4,e5,e6,e7,e8,e9,e10,e11,e12,e13,e14,e15],hns⟩
end Go.Proofs.YtbiacfkiakddiaaGreat

namespace Go.Proofs.YtbiacfkiakddiaaGreat
open Go.RowKit Go.Fl
def valS (n:PN) (p:V) (L:List Nat):Nat :=
 if inI n.kind 0 4 then leafS n p.1 p.2.1 p.2.2
 else if inI n.kind 5 8 then mixS n (L.getD n.a.toNat 0) (L.getD n.b.toNat 0)
 else mixS n (L.getD n.a.toNat 0) 0
def allS (ns:List PN) (C:Nat → V):Nat → List Nat
 | 0 => []
 | m + 1 => match ns[m]? with
  | none => allS ns C m
  | some n => allS ns C m ++ [valS n (C m) (allS ns C m)]

theorem float_info:(Tryz.prog.info? 25).map (fun i => (i.zero,i.size,i.bytes)) = some (some (F1 0),1,4):=by kernel_rfl

theorem owns_below {W w':World} {base:Nat} {e:TypeId} {size:Nat} {v:Value} {n:Nat} {xs:List Value} (h:W.ownsRow base e size v n xs) (hb:Below W.heap.size W w'):w'.ownsRow base e size v n xs :=
 World.ownsRow.kept (row:=none) h ⟨hb.os,hb.tape,hb.output,hb.size,fun k hk _ => hb.block k hk⟩ (by cases v <;> simp [Value.ownBlock] <;> rename_i p _ _ <;> cases p <;> simp [Value.ownBlock])

abbrev fl (xs:List Nat):List Value:=xs.map F1

/-- One number is appended. -/
theorem wp_appF {ops:Array Oper} {rest:List Oper} {o:Oper} {a:Act} {Q:Exit → Act → World → Prop} {W:World} (base:Nat) (hgd:o.guard = none) (s x:Operand)
  (ho:o.op = .call { callee:=.builtin .append,args:=#[s,x],argTypes:=#[140,140] })
  (v:Value) (m:Nat) (xs:List Nat) (hs:a.eval s = v) (hown:W.ownsRow base 25 1 v m (fl xs)) (gn r:Nat) (hx:a.eval x = .slice (some ⟨gn,0,none⟩) 1 1) (hcell:W.cell? ⟨gn,0,none⟩ = some (F1 r))
  (hm:m ≤ 1000) (hbase:base ≤ W.heap.size)
  (h:∀ v' w',w'.ownsRow base 25 1 v' (m + 1) (fl (xs ++ [r])) → W.grownBy w' v.ownBlock → wpList Tryz.prog ops Q rest (a.put o.dst v') w'):wpList Tryz.prog ops Q (o :: rest) a W:=by
 obtain ⟨i0,hi,hz0,hz1,hz2⟩:=info_parts float_info
 refine wpList_append_own _ hgd s x 140 ho base 25 i0 (F1 0) 1 4 Tryz.underlying140 hi hz0 hz1 hz2 rfl (by decide) v m (fl xs) hs hown ⟨gn,0,none⟩ 1 1 [F1 r] hx rfl ?_ ?_ (by unfold maxLen;omega) (by omega) hbase ?_
 ·intro j u hu
  cases j with
  | zero => simp at hu;subst hu;exact hcell
  | succ j => simp at hu
 ·intro u hu
  simp at hu
  subst hu
  rfl
 ·intro v' w' h1 h2 _
  refine h v' w' ?_ h2
  simpa [fl] using h1

theorem grown_vec {W w':World} {base g:Nat} {v:Value} {m:Nat} {xs:List Value} {e:TypeId} {size:Nat} {o:Obj} (hown:W.ownsRow base e size v m xs) (hg:W.grownBy w' v.ownBlock) (hgb:g < base) (hgs:g < W.heap.size) (h:W.heap[g]? = some o):w'.heap[g]? = some o:=by
 rw [hg.block g hgs (fun e => by have:=(hown.lt g e.symm).1;omega)];exact h

theorem grown_below {w W w':World} {base:Nat} {v:Value} {m:Nat} {xs:List Value} {e:TypeId} {size:Nat} (hb:Below w.heap.size w W) (hown:W.ownsRow base e size v m xs) (hg:W.grownBy w' v.ownBlock) (hbase:w.heap.size ≤ base):Below w.heap.size w w' :=
 hb.grown hg hb.size (fun k hk => by have:=(hown.lt k hk).1;omega)

inductive PhiM (E0:Nat):FuncId → Array Value → Value → Prop
 | mix (args:Array Value) (r:Nat) (h:cn .f32 r = E0):PhiM E0 231 args (F1 r)
def FlOf (E0:Nat) (v:Value):Prop:=∃ r,v = F1 r ∧ cn .f32 r = E0

/-- The list of distances comes back. -/
def RetL (ns:List PN) (C:Nat → V) (w:World) (e:Ending) (w':World):Prop :=
 ∃ v xs,e = .returned v ∧ w'.ownsRow w.heap.size 25 1 v ns.length (fl xs) ∧ xs.map (cn .f32) = allS ns C ns.length ∧ Below w.heap.size w w'

set_option maxRecDepth 100000 in
set_option maxHeartbeats 4000000 in
theorem s_all_any (ns:List PN) (hok:OkAll ns) (hl:1 ≤ ns.length ∧ ns.length ≤ 16) (sb so nb no cap x y z:Nat) (w:World) (hsh:ShapeIn ns sb so nb no cap w) :
  Calls Tryz.prog 146 #[.pointer (some ⟨sb,so,none⟩),V3 x y z] w (RetL ns (runP ns (cn .f32 x,cn .f32 y,cn .f32 z) ns.length) w):=by
 have hlist:=hsh.list
 have hsb:sb < w.heap.size:=some_lt (a:=⟨sb,so,none⟩) (by rw [hlist];rfl)
 obtain ⟨i0,hi,hz0,hz1,hz2⟩:=info_parts float_info
 go_enter Tryz.func146,Tryz.ntmps146
 go_wp2_with fail
 have W1b:Below w.heap.size w (w.alloc (.cells #[F1 x,F1 y,F1 z] 38)):=(by repeat' (first | exact Below.refl _ _ | exact Nat.le_refl _ | refine below_drewN ?_ _ | refine Below.alloc ?_ (by simp <;> omega) _ | refine Below.setCell ?_ (by simp <;> omega) _ | refine below_step ?_ (by assumption)))

 have hsh1:=hsh.keep W1b
 generalize w.alloc (.cells #[F1 x,F1 y,F1 z] 38) = W1 at *
 refine (s_points_any ns hok hl sb so nb no cap x y z W1 hsh1).mono ?_
 rintro _ w2 ⟨g,P,rfl,hpar,hC,hb2,hg⟩
 have W2b:=below_step W1b hb2
 have hgw:w.heap.size ≤ g:=Nat.le_trans W1b.size hg
 generalize runP ns (cn .f32 x,cn .f32 y,cn .f32 z) ns.length = C at *
 have hgl:g < w2.heap.size:=(Array.getElem?_eq_some_iff.1 hpar).1
 have hw2:=W2b.size
 clear hb2 hsh1 hg W1b
 go_wp2_with fail
 go_loopw [6,7] (fun v i wr => ∃ (m:Nat) (xs:List Nat),m ≤ ns.length ∧ i = .int .i64 (m:Int) ∧ w2.heap.size ≤ wr.heap.size ∧ wr.ownsRow w2.heap.size 25 1 v m (fl xs) ∧ xs.map (cn .f32) = allS ns C m ∧ wr.heap[g]? = some (.cells (vecs ns.length P) 38 (0,0)) ∧ Below w.heap.size w wr) (fun _ i _ => ns.length - (intOf i).toNat)
 case atStart =>
  refine ⟨0,[],by omega,rfl,by simp,World.ownsRow_lit w2 #[] 0 (Nat.le_refl _) (by unfold maxLen;omega) rfl,rfl,?_,W2b.alloc W2b.size _⟩
  have hgl:=(Array.getElem?_eq_some_iff.1 hpar).1
  rw [show (w2.alloc (.cells #[] 25)).heap = w2.heap.push (.cells #[] 25) from rfl,Array.getElem?_push_lt hgl,← Array.getElem?_eq_getElem hgl];exact hpar
 case round =>
  obtain ⟨m,xs,hm,rfl,hsz,hown,hxs,hpar',Wb⟩:=hrel
  clear hpar W2b
  by_cases hlt:m < ns.length
  ·have hlt':(m:Int) < (ns.length:Int):=by omega
   have h0:(0:Int) ≤ (m:Int):=by omega
   have hn:=(hsh.node m hlt).keep Wb
   have hSr:=(hsh.keep Wb).list
   obtain ⟨hokn,hca,hcb⟩:=hok m hlt
   have hall:allS ns C (m + 1) = allS ns C m ++ [valS ns[m] (C m) (allS ns C m)]:=by rw [allS,List.getElem?_eq_getElem hlt]
   obtain ⟨hki1,hki2⟩:=kids_in hokn.kind
   generalize ns[m] = n at *
   have hleaf:∀ (w:World),Calls Tryz.prog 119 #[.int .i64 n.kind] w (fun e w' => e = .returned (.bool (inI n.kind 0 4)) ∧ w = w'):=fun w => s_leaf_any _ w
   have htwo:∀ (w:World),Calls Tryz.prog 120 #[.int .i64 n.kind] w (fun e w' => e = .returned (.bool (inI n.kind 5 8)) ∧ w = w'):=fun w => s_two_any _ w
   have hkind:=hn.kind
   obtain ⟨p0,p1,p2⟩:=vec_at hpar' m hlt
   have hlen:xs.length = m:=by have:=hown.1;simpa using this
   have hCm:=hC m
   have hHC:=Lib.hid hC
   have hHall:=Lib.hid hall
   have hHxs:=Lib.hid hxs
   clear hC hall hxs
   cases hlf:inI n.kind 0 4
   ·rw [hlf] at hki1
    have hne:(ruleF n.kind).2.1 ≠ 0:=by simpa using hki1.symm
    obtain ⟨ca,hcaI⟩:=Int.eq_ofNat_of_zero_le (hca hne).1
    have hcal:ca < m:=by have:=(hca hne).2;omega
    have hcaL:(ca:Int) < (m:Int):=by omega
    obtain ⟨g6,cap6,rfl,hg6,hg6s⟩:=hown.form (by omega)
    have hA:=hn.a
    rw [hcaI] at hA
    have hcA:=hown.cellAt ca (by omega)
    rw [show (fl xs)[ca]? = some (F1 xs[ca]) by simp [fl]] at hcA
    have hHa:Hid (n.a.toNat = ca):=by unfold Hid;rw [hcaI];rfl
    have hHki2:=Lib.hid hki2
    have hgetA:Hid ((allS ns C m).getD ca 0 = cn .f32 xs[ca]):=by unfold Hid;rw [← hHxs.out,List.getD_eq_getElem?_getD,List.getElem?_map,List.getElem?_eq_getElem (show ca < xs.length by omega)];rfl
    have hxa:xs[ca] = xs[ca]:=rfl
    generalize xs[ca] = va at hcA hgetA
    clear hki1 hki2 hcaI hxa p0 p1 p2
    cases htw:inI n.kind 5 8
    ·clear hcb
     go_wp2_with (first
      | (go_at_call 119;refine (hleaf _).mono ?_;rintro _ w4 ⟨rfl,rfl⟩;rw [hlf])
      | (go_at_call 120;refine (htwo _).mono ?_;rintro _ w4 ⟨rfl,rfl⟩;rw [htw])
      | (go_at_call 231;refine (s_mix_node hn hokn hne _ _).mono ?_;rintro _ w4 ⟨r,rfl,hr,hb4⟩;have hown4:=owns_below hown hb4)
      | (at_builtin;refine wp_appF w2.heap.size rfl (.tmp 28) (.tmp 38) rfl _ m xs rfl (hown4.alloc _) w4.heap.size r rfl (by simp) (by omega) (by have:=hb4.size;simp;omega) ?_;intro v5 w5 hown5 hg5))
     have hb5:=hb4.size
     have hg5s:=hg5.size
     rw [show (w4.alloc (.cells #[F1 r] 25)).heap.size = w4.heap.size + 1 by simp] at hg5s
     refine ⟨⟨m + 1,xs ++ [r],by omega,by simp,by omega,hown5,?_,?_,grown_below ((below_step Wb hb4).alloc (by have:=Wb.size;omega) _) (hown4.alloc _) hg5 hw2⟩,by simp [intOf];omega⟩
     ·rw [List.map_append,hHxs.out,hHall.out,valS,hlf,htw,hHa.out,hgetA.out]
      simp only [List.map_cons,List.map_nil,hr,cn_zero]
      rfl
     ·refine grown_vec (hown4.alloc _) hg5 hgl (by simp;omega) ?_
      have h1:=hb4.block g (by omega)
      rw [show (w4.alloc (.cells #[F1 r] 25)).heap = w4.heap.push (.cells #[F1 r] 25) from rfl,Array.getElem?_push_lt (by omega),← Array.getElem?_eq_getElem (by omega),h1];exact hpar'
    ·have hbb:=hcb (by have:=hHki2.out;rw [htw] at this;simpa using this.symm)
     obtain ⟨cb,hcbI⟩:=Int.eq_ofNat_of_zero_le hbb.1
     have hcbl:cb < m:=by omega
     have hcbL:(cb:Int) < (m:Int):=by omega
     have hB:=hn.b
     rw [hcbI] at hB
     have hcB:=hown.cellAt cb (by omega)
     rw [show (fl xs)[cb]? = some (F1 xs[cb]) by simp [fl]] at hcB
     have hHb:Hid (n.b.toNat = cb):=by unfold Hid;rw [hcbI];rfl
     have hgetB:Hid ((allS ns C m).getD cb 0 = cn .f32 xs[cb]):=by unfold Hid;rw [← hHxs.out,List.getD_eq_getElem?_getD,List.getElem?_map,List.getElem?_eq_getElem (show cb < xs.length by omega)];rfl
     generalize xs[cb] = vb at hcB hgetB
     have hkept:Kept [(⟨nb,no + m * 4 + 1,none⟩,.int .i64 (ca:Int)),(⟨nb,no + m * 4 + 2,none⟩,.int .i64 (cb:Int)),(⟨g6,ca,none⟩,F1 va),(⟨g6,cb,none⟩,F1 vb)] [] wr:=by
      simp only [Kept,ka,kb,kc,kd,ke,kfa,kga]
      exact ⟨hA,hB,hcA,hcB⟩
     clear hcb hbb hcbI hA hB hcA hcB
     go_upto_region 11 with (first
      | (go_at_call 119;refine (hleaf _).mono ?_;rintro _ w4 ⟨rfl,rfl⟩;rw [hlf])
      | (go_at_call 120;refine (htwo _).mono ?_;rintro _ w4 ⟨rfl,rfl⟩;rw [htw]))
     clear hkind
     refine Qr.wp_madeS 18 17 16 78 77 (FlOf (mixS n (cn .f32 va) (cn .f32 vb))) 25 (by kernel_rfl) (by kernel_rfl) (PhiM (mixS n (cn .f32 va) (cn .f32 vb))) ⟨by show 78 < 81;decide,by show 77 < 81;decide⟩ (by kernel_rfl) (by kernel_rfl)
      ⟨_,rfl,by kernel_rfl,rfl,?_⟩ ⟨_,rfl,rfl,fun a w => ⟨_,_,by go_simp;exact ⟨rfl,rfl⟩⟩⟩ ⟨_,rfl,by kernel_rfl⟩ (fun f args v h => by obtain ⟨_,r,hr⟩:=h;exact ⟨r,rfl,hr⟩) (by kernel_rfl) ?_
     ·intro a w v hv he
      obtain ⟨r,rfl,_⟩:=hv
      have he':a.tmps[77]?.getD undef = F1 r:=by rw [← Array.getD_eq_getD_getElem?];exact he
      clear he
      go_simp
     repeat (first | (refine Qr.walk_plain rfl fun K hK => ?_;apply Qr.one_det;(focus (intro w' hw';have HK:=keep hkept hw';simp only [Kept,ka,kb,kc,kd,ke,kfa,kga] at HK;go_simp;first | done | rfl));go_simp;refine hK _ ?_;clear hK K) | (refine Qr.walk_plain rfl fun K hK => ?_;apply Qr.one_call;(focus (intro w' hw';go_simp;first | done | exact ⟨rfl,rfl⟩));(focus (intro w' hw'; go_at_call 231;refine (s_mix_node (hn.keep hw') hokn hne _ _).mono ?_;rintro _ w2 ⟨r1,rfl,hr1,hb1⟩;exact ⟨_,rfl,PhiM.mix _ _ hr1,below_step hw' (by assumption),by assumption⟩));intro v hv;obtain ⟨_,r1,hr1⟩:=hv;go_simp;refine hK _ ?_;clear hK K) | (refine Qr.walk_plain rfl fun K hK => ?_;refine Qr.one_rel (fun v => ∃ gs,v = .slice (some ⟨gs,0,none⟩) 1 1) (fun w' hw' => ⟨.slice (some ⟨w'.heap.size,0,none⟩) 1 1,_,by go_simp;rfl,⟨_,rfl⟩,hw'.alloc hw'.size _,(Below.refl _ _).alloc (Nat.le_refl _) _⟩) (fun v hv => ?_);obtain ⟨gs,rfl⟩:=hv;go_simp;refine hK _ ?_;clear hK K))
     refine Qr.walk_nil fun w6 hw6 hmade => ?_
     obtain ⟨g7,v7,e1,hg7,⟨r7,rfl,hr7⟩,hcell⟩:=hmade
     have e2:Value.slice (some ⟨gs,0,none⟩) 1 1 = .slice (some ⟨g7,0,none⟩) 1 1:=e1
     injection e2 with e2
     injection e2 with e2
     injection e2 with e2
     subst e2
     clear e1
     have hc7:w6.cell? ⟨gs,0,none⟩ = some (F1 r7):=by simp [World.cell?,hcell]
     have hown6:=owns_below hown hw6
     have hb6:=hw6.size
     clear hcell hkept hn hSr
     go_simp
     refine wp_appF w2.heap.size rfl (.tmp 61) (.tmp 78) rfl _ m xs rfl hown6 gs r7 rfl hc7 (by omega) (by omega) ?_
     intro v5 w5 hown5 hg5
     go_wp2_with fail
     have hg5s:=hg5.size
     refine ⟨⟨m + 1,xs ++ [r7],by omega,by simp,by omega,hown5,?_,?_,grown_below (below_step Wb hw6) hown6 hg5 hw2⟩,by simp [intOf];omega⟩
     ·rw [List.map_append,hHxs.out,hHall.out,valS,hlf,htw,hHa.out,hgetA.out,hHb.out,hgetB.out]
      simp only [List.map_cons,List.map_nil,hr7]
      rfl
     ·refine grown_vec hown6 hg5 hgl (by omega) ?_
      rw [hw6.block g (by omega)];exact hpar'
   ·have hc0:(ruleF n.kind).2.1 = 0:=by rw [hlf] at hki1;simpa using hki1.symm
    have hHc0:=Lib.hid hc0
    clear hki1 hki2 hca hcb hc0
    go_wp2_with (first
     | (go_at_call 119;refine (hleaf _).mono ?_;rintro _ w4 ⟨rfl,rfl⟩;rw [hlf])
     | (go_at_call 196;refine (s_leaf_node hn hokn hHc0.out _ _ _).mono ?_;rintro _ w4 ⟨r,rfl,hr,hb4⟩;have hown4:=owns_below hown hb4)
     | (at_builtin;refine wp_appF w2.heap.size rfl (.tmp 46) (.tmp 53) rfl _ m xs rfl (hown4.alloc _) w4.heap.size r rfl (by simp) (by omega) (by have:=hb4.size;simp;omega) ?_;intro v5 w5 hown5 hg5))
    have hb5:=hb4.size
    have hg5s:=hg5.size
    rw [show (w4.alloc (.cells #[F1 r] 25)).heap.size = w4.heap.size + 1 by simp] at hg5s
    refine ⟨⟨m + 1,xs ++ [r],by omega,by simp,by omega,hown5,?_,?_,grown_below ((below_step Wb hb4).alloc (by have:=Wb.size;omega) _) (hown4.alloc _) hg5 hw2⟩,by simp [intOf];omega⟩
    ·rw [List.map_append,hHxs.out,hHall.out,valS,hlf,if_pos rfl,← hCm]
     simp only [List.map_cons,List.map_nil,hr]
     rfl
    ·refine grown_vec (hown4.alloc _) hg5 hgl (by simp;omega) ?_
     have h1:=hb4.block g (by omega)
     rw [show (w4.alloc (.cells #[F1 r] 25)).heap = w4.heap.push (.cells #[F1 r] 25) from rfl,Array.getElem?_push_lt (by omega),← Array.getElem?_eq_getElem (by omega),h1];exact hpar'
  ·obtain rfl:m = ns.length:=by omega
   have hHxs:=Lib.hid hxs
   have hSr:=(hsh.keep Wb).list
   clear hxs hsh hok
   go_wp2_with fail
   go_ret
   exact ⟨_,xs,rfl,World.ownsRow.mono hown hw2,hHxs.out,Wb⟩
end Go.Proofs.YtbiacfkiakddiaaGreat

namespace Go.Proofs.YtbiacfkiakddiaaGreat
open Go.RowKit Go.Fl
theorem arr_set {w:World} {g:Nat} {A:Array Value} {T:TypeId} (h:w.heap[g]? = some (.cells A T (0,0))) (k:Nat) (v:Value):(w.setCell ⟨g,k,none⟩ v).heap[g]? = some (.cells (A.setIfInBounds k v) T (0,0)):=by
 simp only [World.setCell,Array.getElem?_modify,if_true,h,Option.map_some]
 rfl
theorem arr_cell {w:World} {g:Nat} {A:Array Value} {T:TypeId} (h:w.heap[g]? = some (.cells A T (0,0))) (k:Nat):w.cell? ⟨g,k,none⟩ = A[k]?:=by
 simp [World.cell?,h]
theorem arr_frozen {w:World} {g:Nat} {A:Array Value} {T:TypeId} (h:w.heap[g]? = some (.cells A T (0,0))) (k:Nat):w.frozen? ⟨g,k,none⟩ = false:=by
 simp [World.frozen?,h]

theorem make_floats (n:Nat) (hn:(n:Int) ≤ 1048576) (w:World):∃ A:Array Value,A.size = n ∧ (Instr.makeSlice 140 (.int .i64 (n:Int)) (.int .i64 (n:Int))).run Tryz.prog w = .ok (.slice (some ⟨w.heap.size,0,none⟩) n n) (w.alloc (.cells A 25)):=by
 obtain ⟨i0,hi,hz0,hz1,hz2⟩:=info_parts float_info
 have h:=run_make (P:=Tryz.prog) w 140 25 i0 (F1 0) Tryz.underlying140 hi hz0 .i64 .i64 n n (by omega) (by omega) (by rw [hz2];omega) (by omega)
 rw [hz1] at h
 refine ⟨_,?_,h⟩
 simp [madeCells]

set_option maxRecDepth 100000 in
set_option maxHeartbeats 2000000 in
theorem to_floats (xs:List Nat) (hlen:(xs.length:Int) ≤ 1048576) (bp:Option Addr) (bv ov cap:Nat) (w:World) (h1:xs ≠ [] → bp = some ⟨bv,ov,none⟩) (h2:∀ i (h:i < xs.length),w.cell? ⟨bv,ov + i,none⟩ = some (F1 xs[i])) :
  Calls Tryz.prog 203 #[.slice bp xs.length cap] w (fun e w' => ∃ g,e = .returned (.slice (some ⟨g,0,none⟩) xs.length xs.length) ∧ (∀ i (h:i < xs.length),w'.cell? ⟨g,0 + i,none⟩ = some (F1 xs[i])) ∧ w.heap.size ≤ g ∧ Below w.heap.size w w'):=by
 obtain ⟨A,hA,hmk⟩:=make_floats xs.length hlen w
 go_enter Tryz.func203,Tryz.ntmps203
 go_wp2_with fail
 have W1b:Below w.heap.size w (w.alloc (.cells A 25)):=(by repeat' (first | exact Below.refl _ _ | exact Nat.le_refl _ | refine below_drewN ?_ _ | refine Below.alloc ?_ (by simp <;> omega) _ | refine Below.setCell ?_ (by simp <;> omega) _ | refine below_step ?_ (by assumption)))

 have hpar:=heap_alloc_at w (.cells A 25)
 generalize w.alloc (.cells A 25) = W1 at *
 clear hmk
 go_loopw [4] (fun i wr => ∃ (m:Nat) (A:Array Value),m ≤ xs.length ∧ i = .int .i64 (m:Int) ∧ A.size = xs.length ∧ wr.heap[w.heap.size]? = some (.cells A 25 (0,0)) ∧ (∀ k (h:k < xs.length),k < m → A[k]? = some (F1 xs[k])) ∧ Below w.heap.size w wr) (fun i _ => xs.length - (intOf i).toNat)
 case atStart => exact ⟨0,A,by omega,rfl,hA,hpar,fun k _ h => by omega,W1b⟩
 case round =>
  obtain ⟨m,A',hm,rfl,hA',hpar',hk,Wb⟩:=hrel
  clear hpar W1b
  by_cases hlt:m < xs.length
  ·have hlt':(m:Int) < (xs.length:Int):=by omega
   have h0:(0:Int) ≤ (m:Int):=by omega
   have hne:xs ≠ []:=by intro h;rw [h] at hlt;simp at hlt
   have hbp:=h1 hne
   subst hbp
   have hc:wr.cell? ⟨bv,ov + m,none⟩ = some (F1 xs[m]):=by rw [lift Wb _ (by rw [h2 m hlt];rfl)];exact h2 m hlt
   have hold:wr.cell? ⟨w.heap.size,m,none⟩ = some (A'[m]'(by omega)):=by rw [arr_cell hpar',Array.getElem?_eq_getElem (by omega)]
   have hfz:=arr_frozen hpar'
   have hset:=arr_set hpar' m (F1 xs[m])
   have hb3:=Wb.setCell (p:=⟨w.heap.size,m,none⟩) (Nat.le_refl _) (Value.float .f32 xs[m])
   have hnew:Hid (∀ k (h:k < xs.length),k < m + 1 → (A'.setIfInBounds m (F1 xs[m]))[k]? = some (F1 xs[k])):=fun k h hkm => by
    by_cases hkm':k = m
    ·subst hkm'
     rw [Array.getElem?_setIfInBounds_self_of_lt (by omega)]
    ·rw [Array.getElem?_setIfInBounds_ne (by omega)]
     exact hk k h (by omega)
   have hH:=Lib.hid hset
   clear hk hset hpar' h2 h1
   generalize xs[m] = xv at hc hb3 hH hnew
   go_wp2_with fail
   exact ⟨⟨m + 1,_,by omega,by simp,by simpa using hA',hH.out,hnew.out,hb3⟩,by simp [intOf];omega⟩
  ·obtain rfl:m = xs.length:=by omega
   have hH:=Lib.hid hk
   have hP:=Lib.hid hpar'
   clear hk hpar' h1 h2
   go_wp2_with fail
   go_ret
   exact ⟨w.heap.size,rfl,fun i hi => by rw [Nat.zero_add,arr_cell hP.out];exact hH.out i hi hi,Nat.le_refl _,Wb⟩
end Go.Proofs.YtbiacfkiakddiaaGreat
