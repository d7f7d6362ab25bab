/-
 Lemmas: B10,B6,A2,A3,A7.
-/
import Derived.Test.YtbiacfkiakddiaaGreatXcc
set_option linter.unusedVariables false
set_option linter.unusedSimpArgs false
set_option maxHeartbeats 16000000
namespace Go.Proofs.YtbiacfkiakddiaaGreat
open Go.RowKit Go.Fl
theorem zak {ops:Array Oper} {o:Oper} {a:Act} {W:World} {K:Act→World→Prop} {Q:Exit→Act→World→Prop} {E:Prop} (base:Nat) (hgd:o.guard=none) (s x:Operand)
  (ho:o.op=.call { callee:=.builtin .append,args:=#[s,x],argTypes:=#[47,47] })
  (v:Value) (m:Nat) (bs:List Bx) (hs:a.eval s=v) (hown:W.ownsRow base 40 6 v m (fb bs)) (gn c:Nat) (b:Bx) (hx:a.eval x=.slice (some ⟨gn,0,none⟩) 1 c) (hcell:BoxAt gn 0 b W)
  (hm:m≤1000) (hbase:base≤W.heap.size)
  (h:∀ v' w',w'.ownsRow base 40 6 v' (m+1) (fb (bs++[b]))→W.grownBy w' v.ownBlock→(v'.ownBlock=v.ownBlock∨v'.ownBlock=some W.heap.size)→K (a.put o.dst v') w') :
  if Region.wanted o (yielded ops a.tmps)=true then Oper.wp Tryz.prog o a W K Q else E:=by
 have hw:Region.wanted o (yielded ops a.tmps)=true:=by simp[Region.wanted,hgd]
 rw[if_pos hw]
 obtain⟨i0,hi,hz0,hz1,hz2⟩:=info_parts zgk
 obtain⟨v',w',hr,h2,h3,h4,h5⟩:=run_append_own_at (P:=Tryz.prog) W base 47 o.type 40 i0 (.agg #[F1 0,F1 0,F1 0,F1 0,F1 0,F1 0]) 6 24 Tryz.underlying47 hi hz0 hz1 hz2 rfl (by decide) v m (fb bs) hown ⟨gn,0,none⟩ 1 c (b6 b) rfl
  (fun j u hu=>by have:=hcell j u hu;rw[show (⟨gn,0,none⟩:Addr).add j=⟨gn,j,none⟩ by cases j<;>simp[Addr.add]];simpa using this) (fun u hu=>zo1 hu) (by unfold maxLen;omega) (by omega) hbase
 unfold Oper.wp execOp
 simp only[ho,resolve,invoke,builtin,Sem.run_bind,Sem.run_pure,Result.andThen_ok,List.map_toArray,List.map_cons,List.map_nil,hs,hx,hr]
 exact h v' w' (by rw[zvh];exact h2) h3 h5

theorem zg2 {W w':World} {row:Option Nat} (h:W.grownBy w' row) {p:Addr} {v:Value} (hp:W.cell? p=some v) (hne:row ≠ some p.block):w'.cell? p=some v:=by
 have hlt:p.block<W.heap.size:=zg (by rw[hp];rfl)
 have:=h.block p.block hlt (by intro e;exact hne e.symm)
 unfold World.cell? at hp ⊢
 rw[this]
 exact hp
theorem BoxAt.grown {W w':World} {row:Option Nat} (h:W.grownBy w' row) {g p:Nat} {b:Bx} (hp:BoxAt g p b W) (hne:row ≠ some g):BoxAt g p b w':=fun j u hu=>zg2 h (hp j u hu) hne
theorem zbu {W:World} {h:Nat} (hh:h=W.heap.size) (b:Bx) (T:TypeId):BoxAt h 0 b (W.alloc (.cells #[F1 b.1.1,F1 b.1.2.1,F1 b.1.2.2,F1 b.2.1,F1 b.2.2.1,F1 b.2.2.2] T)):=by
 intro j u hu
 have hj:=zi8 hu
 rcases (show j=0∨j=1∨j=2∨j=3∨j=4∨j=5 by omega) with rfl|rfl|rfl|rfl|rfl|rfl<;>(injection hu with hu;subst hu;exact zi7 hh _ _ _ _ rfl)
theorem BoxAt.lay {W:World} {g p:Nat} {b:Bx} (h:BoxAt g p b W) (o:Obj):BoxAt g p b (W.alloc o):=h.keep (zt ..)
theorem zvz {w:World} {lo lo':Nat} {e:TypeId} {size n:Nat} {v:Value} {xs:List Value} (h:w.ownsRow lo e size v n xs) (hl:w.heap.size≤lo'):∀ g,lo'≤g→v.ownBlock ≠ some g:=by
 intro g hg e
 have:=(h.lt g e).2
 omega
theorem zdo {cs:List (Addr × Value)} {W w':World} {row:Option Nat} {L:Nat} (h:zc cs [] W) (hg:W.grownBy w' row) (hne:∀ g,L≤g→row ≠ some g) (hL:∀ p∈cs,L≤p.1.block):zc cs [] w' :=
 ⟨fun p hp=>zg2 hg (h.1 p hp) (hne _ (hL p hp)),fun x hx=>absurd hx (by simp)⟩
theorem zbh {w:World} {lo:Nat} {e:TypeId} {size n:Nat} {v:Value} {xs:List Value} (h:w.ownsRow lo e size v n xs):w.drew.ownsRow lo e size v n xs:=h
theorem zcv {g p:Nat} {b:Bx} {w:World} (h:BoxAt g p b w):BoxAt g p b w.drew:=h
theorem zex (w:World):w.drew.heap.size=w.heap.size:=rfl
def uy (half:Nat→Nat) (b:Bx):Bool:=xn (vf half b).1 && xn (vf half b).2
theorem zuh:xk=vh:=funext ztc

theorem zk1 {half:Nat→Nat}:∀ {l:List Bx},(∀ b∈l,xn b=true)→l.all (zcl half)=l.all (uy half)
 | [],_=>rfl
 | b::l,h=>by
  rw[List.all_cons,List.all_cons,zk1 fun c hc=>h c (List.mem_cons_of_mem _ hc)]
  unfold zcl uy
  rw[h b List.mem_cons_self,Bool.true_and]
theorem zeu {half:Nat→Nat} {l:List Bx} (h:l.all (uy half)=true):∀ b∈jc half l,xn b=true:=by
 intro b hb
 obtain⟨a,ha,hb⟩:=List.mem_flatMap.1 hb
 have h1:=List.all_eq_true.1 h a ha
 unfold uy at h1
 rw[Bool.and_eq_true]at h1
 simp only[List.mem_cons,List.not_mem_nil,or_false]at hb
 rcases hb with rfl|rfl
 ·exact h1.1
 ·exact h1.2
theorem zdm (half:Nat→Nat):∀ l:List Bx,(jc half l).length=2*l.length
 | []=>rfl
 | b::l=>by
  have:jc half (b::l)=(vf half b).1::(vf half b).2::jc half l:=rfl
  rw[this]
  simp only[List.length_cons,zdm half l]
  omega

theorem znr {w:World} {lo lo':Nat} {e:TypeId} {size n:Nat} {v:Value} {xs:List Value} (h:w.ownsRow lo e size v n xs) (hl:lo'≤lo):w.ownsRow lo' e size v n xs:=by
 obtain⟨h1,h2|⟨g,cap,cur,hv,hb,r⟩⟩:=h
 ·exact⟨h1,.inl h2⟩
 ·exact⟨h1,.inr ⟨g,cap,cur,hv,Nat.le_trans hl hb,r⟩⟩
theorem zc3 {w:World} {lo n:Nat} {v:Value} {bs:List Bx} (h:w.ownsRow lo 40 6 v n (fb bs)) (hn:n=bs.length):∃ p g cap,v=.slice p bs.length cap∧(bs ≠ []→p=some ⟨g,0,none⟩)∧BxsIn bs g 0 w:=by
 subst hn
 rcases znc h with⟨rfl,h0⟩|⟨g,cap,rfl,_,_⟩
 ·exact⟨none,0,0,by rw[h0],fun hne=>absurd (List.length_eq_zero_iff.1 h0) hne,fun i hi=>by omega⟩
 ·refine⟨_,g,cap,rfl,fun _=>rfl,fun i hi j u hu=>?_⟩
  have hj:=zi8 hu
  have:=h.cellAt (i*6+j) (by omega)
  obtain⟨g0,g1,g2,g3,g4,g5⟩:=zut bs i hi
  rw[show 0+i*6+j=i*6+j by omega]
  have hc:(fb bs)[i*6+j]? = some u:=by
   rcases (show j=0∨j=1∨j=2∨j=3∨j=4∨j=5 by omega) with rfl|rfl|rfl|rfl|rfl|rfl<;>(injection hu with hu;subst hu;assumption)
  rw[hc]at this
  simpa using this
set_option maxRecDepth 100000 in
theorem zkk (bs:List Bx) (g o cap:Nat) (p:Option Addr) (w:World) (hp:bs ≠ []→p=some ⟨g,o,none⟩) (hB:BxsIn bs g o w) (hl:bs.length≤400) :
  Calls Tryz.prog 81 #[.slice p bs.length cap] w (zxc (bs.all fun b=>uy vh (cnb b)) (jc vh (bs.map cnb)) w):=by
 obtain⟨ok,hOk⟩:∃ ok,Hid (ok=bs.all fun b=>uy vh (cnb b)):=⟨_,rfl⟩
 rw[← hOk.out]
 go_enter Tryz.func81,Tryz.ntmps81
 go_wp2_with fail
 have hpos:(0:Int)≤(bs.length:Int):=by omega
 go_loopw [4,5] (fun v i wr=>∃ (m:Nat) (ys:List Bx),m≤bs.length∧i=.int .i64 (m:Int)∧w.heap.size≤wr.heap.size∧wr.ownsRow w.heap.size 40 6 v ys.length (fb ys)∧ys.length=2*m∧ys.map cnb=jc vh ((bs.take m).map cnb)∧((bs.take m).map cnb).all (uy vh)=true∧Below w.heap.size w wr) (fun _ i _=>bs.length-(intOf i).toNat)
 case atStart=>exact⟨0,[],by omega,rfl,by simp,World.ownsRow_lit w #[] 0 (Nat.le_refl _) (by unfold maxLen;omega) rfl,rfl,rfl,rfl,zt ..⟩
 case round =>
  obtain⟨m,ys,hm,rfl,hsz4,hown4,hyl,hym,hya,Wb4⟩:=hrel
  by_cases hlt:m<bs.length
  ·have hlt':(m:Int)<(bs.length:Int):=by omega
   have h0:(0:Int)≤(m:Int):=by omega
   have hpe:=hp (by intro h;rw[h]at hlt;simp at hlt)
   subst hpe
   have hb:=(hB.keep Wb4) m hlt
   obtain⟨⟨⟨a,b,c⟩,d,e,f⟩,hbx2⟩:∃ x,x=bs[m]:=⟨_,rfl⟩
   rw[← hbx2]at hb
   have c0:=hb 0 _ rfl
   have c1:=hb 1 _ rfl
   have c2:=hb 2 _ rfl
   have c3:=hb 3 _ rfl
   have c4:=hb 4 _ rfl
   have c5:=hb 5 _ rfl
   simp only[Nat.add_zero]at c0
   obtain⟨SS,hSS⟩:∃ SS,Hid (SS=vf vh (cnB a b c d e f)):=⟨_,rfl⟩
   have hsp:∀ w',Calls Tryz.prog 73 #[ug a b c d e f] w' (zxj SS w'):=fun w'=>by rw[hSS.out];exact zm6 a b c d e f w'
   have hbc:Hid (cnb bs[m]=cnB a b c d e f):=by unfold Hid;rw[← hbx2];rfl
   clear hb hp
   go_upto_region 6 with (go_at_call 73;refine (hsp _).mono ?_;rintro _ w5⟨a1,b1,c1,d1,e1,f1,a2,b2,c2,d2,e2,f2,rfl,hs1,hs2,hb1⟩;have Wb5:=za Wb4 hb1;have hown5:=yg hown4 hb1)
   have hb2:Below w5.heap.size w5 ((w5.alloc (.cells #[F1 a1,F1 b1,F1 c1,F1 d1,F1 e1,F1 f1] 40)).alloc (.cells #[F1 a2,F1 b2,F1 c2,F1 d2,F1 e2,F1 f2] 40)):=(by repeat' (first|exact zi _ _|refine zd ?_ _|refine Below.alloc ?_ (by simp<;>omega) _|refine zj ?_ (by simp<;>omega) _|refine za ?_ ‹_›))
   have hown6:((w5.alloc (.cells #[F1 a1,F1 b1,F1 c1,F1 d1,F1 e1,F1 f1] 40)).alloc (.cells #[F1 a2,F1 b2,F1 c2,F1 d2,F1 e2,F1 f2] 40)).ownsRow w.heap.size 40 6 u4 ys.length (fb ys):=(hown5.alloc _).alloc _
   have hg8:∀ g,w5.heap.size≤g→u4.ownBlock ≠ some g:=zvz hown5 (Nat.le_refl _)
   have Wb6:=za Wb5 hb2
   have hkept:zc [(⟨w5.heap.size,0,none⟩,F1 a1),(⟨w5.heap.size,1,none⟩,F1 b1),(⟨w5.heap.size,2,none⟩,F1 c1),(⟨w5.heap.size,3,none⟩,F1 d1),(⟨w5.heap.size,4,none⟩,F1 e1),(⟨w5.heap.size,5,none⟩,F1 f1),(⟨w5.heap.size+1,0,none⟩,F1 a2),(⟨w5.heap.size+1,1,none⟩,F1 b2),(⟨w5.heap.size+1,2,none⟩,F1 c2),(⟨w5.heap.size+1,3,none⟩,F1 d2),(⟨w5.heap.size+1,4,none⟩,F1 e2),(⟨w5.heap.size+1,5,none⟩,F1 f2)] [] ((w5.alloc (.cells #[F1 a1,F1 b1,F1 c1,F1 d1,F1 e1,F1 f1] 40)).alloc (.cells #[F1 a2,F1 b2,F1 c2,F1 d2,F1 e2,F1 f2] 40)):=by simp only[zc,ka,kb,zb,kfa,kga];(first|(go_simp;done)|(simp[World.cell?,World.frozen?,World.alloc,Array.getElem?_push];done))
   have hbo:Hid (uy vh (cnb bs[m])=(zaq (cn .f32 a1,cn .f32 b1,cn .f32 c1) (cn .f32 d1,cn .f32 e1,cn .f32 f1) && zaq (cn .f32 a2,cn .f32 b2,cn .f32 c2) (cn .f32 d2,cn .f32 e2,cn .f32 f2))):=by
    unfold Hid uy
    rw[hbc.out,← hSS.out,← hs1,← hs2]
    rfl
   clear hown5 hb1 Wb4 hown4
   generalize (w5.alloc (.cells #[F1 a1,F1 b1,F1 c1,F1 d1,F1 e1,F1 f1] 40)).alloc (.cells #[F1 a2,F1 b2,F1 c2,F1 d2,F1 e2,F1 f2] 40)=w6 at *
   have hs58:w5.heap.size≤w6.heap.size:=hb2.size
   clear hb2
   have hw6:w.heap.size≤w6.heap.size:=Wb6.size
   have hK:=hkept;simp only[zc,ka,kb,zb,kfa,kga]at hK
   have t1:True:=trivial
   cases h1:zaq (cn .f32 a1,cn .f32 b1,cn .f32 c1) (cn .f32 d1,cn .f32 e1,cn .f32 f1)
   ·have hno:Hid (ok=false):=by
      unfold Hid
      rw[hOk.out,List.all_eq_false]
      exact⟨bs[m],List.getElem_mem _,by rw[hbo.out,h1];simp⟩
    go_wp2_with (go_at_call 61;refine (qi a1 b1 c1 d1 e1 f1 _ _ _ (by simp only[zc,ka,kb,zb,kfa,kga];simp[hK])).mono ?_;rintro _ w7⟨rfl,hb1⟩;have Wb6:=za Wb6 hb1;have hkept:=zn hkept hb1 rfl;replace hK:=hkept;simp only[zc,ka,kb,zb,kfa,kga]at hK;rw[h1])
    exact bodyPost_ret (v:=.tuple #[.slice (some ⟨w7.heap.size,0,none⟩) 0 0,.bool false]) (by simp[results,Tryz.results81,go_sem];first|done|(rfl;done)|(repeat' constructor)) rfl ⟨_,[],by rw[hno.out],fun h=>(by rw[hno.out]at h;cases h),Wb6.alloc Wb6.size _⟩
   cases h2:zaq (cn .f32 a2,cn .f32 b2,cn .f32 c2) (cn .f32 d2,cn .f32 e2,cn .f32 f2)
   ·have hno:Hid (ok=false):=by
      unfold Hid
      rw[hOk.out,List.all_eq_false]
      exact⟨bs[m],List.getElem_mem _,by rw[hbo.out,h1,h2];simp⟩
    go_wp2_with (first
     | (clear t1;go_at_call 61;refine (qi a1 b1 c1 d1 e1 f1 _ _ _ (by simp only[zc,ka,kb,zb,kfa,kga];simp[hK])).mono ?_;rintro _ w7⟨rfl,hb1⟩;have Wb6:=za Wb6 hb1;have hkept:=zn hkept hb1 rfl;replace hK:=hkept;simp only[zc,ka,kb,zb,kfa,kga]at hK;rw[h1])
     | (go_at_call 61;refine (qi a2 b2 c2 d2 e2 f2 _ _ _ (by simp only[zc,ka,kb,zb,kfa,kga];simp[hK])).mono ?_;rintro _ w8⟨rfl,hb1⟩;have Wb6:=za Wb6 hb1;have hkept:=zn hkept hb1 rfl;replace hK:=hkept;simp only[zc,ka,kb,zb,kfa,kga]at hK;rw[h2]))
    exact bodyPost_ret (v:=.tuple #[.slice (some ⟨w8.heap.size,0,none⟩) 0 0,.bool false]) (by simp[results,Tryz.results81,go_sem];first|done|(rfl;done)|(repeat' constructor)) rfl ⟨_,[],by rw[hno.out],fun h=>(by rw[hno.out]at h;cases h),Wb6.alloc Wb6.size _⟩
   go_upto_region 8 with (first
     | (clear t1;go_at_call 61;refine (qi a1 b1 c1 d1 e1 f1 _ _ _ (by simp only[zc,ka,kb,zb,kfa,kga];simp[hK])).mono ?_;rintro _ w7⟨rfl,hb1⟩;have Wb6:=za Wb6 hb1;have hown6:=yg hown6 hb1;have hw6:=Nat.le_trans hw6 hb1.size;have hs58:=Nat.le_trans hs58 hb1.size;have hkept:=zn hkept hb1 rfl;replace hK:=hkept;simp only[zc,ka,kb,zb,kfa,kga]at hK;rw[h1])
     | (go_at_call 61;refine (qi a2 b2 c2 d2 e2 f2 _ _ _ (by simp only[zc,ka,kb,zb,kfa,kga];simp[hK])).mono ?_;rintro _ w8⟨rfl,hb1⟩;have Wb6:=za Wb6 hb1;have hown6:=yg hown6 hb1;have hw6:=Nat.le_trans hw6 hb1.size;have hs58:=Nat.le_trans hs58 hb1.size;have hkept:=zn hkept hb1 rfl;replace hK:=hkept;simp only[zc,ka,kb,zb,kfa,kga]at hK;rw[h2]))
   have hl1:w5.heap.size<w8.heap.size:=zg (a:=⟨w5.heap.size,0,none⟩) (by simp[hK])
   have hl2:w5.heap.size+1<w8.heap.size:=zg (a:=⟨w5.heap.size+1,0,none⟩) (by simp[hK])
   have hmapN:Hid ((ys++[((a1,b1,c1),d1,e1,f1)]++[((a2,b2,c2),d2,e2,f2)]).map cnb=jc vh ((bs.take (m+1)).map cnb)):=by
    unfold Hid
    rw[(List.take_append_getElem hlt).symm,List.map_append,List.map_append,hym,List.map_append]
    unfold jc
    rw[List.flatMap_append,List.append_assoc]
    congr 1
    simp only[List.map_cons,List.map_nil,List.flatMap_cons,List.flatMap_nil,List.append_nil]
    rw[hbc.out,← hSS.out,← hs1,← hs2]
    rfl
   have hallN:Hid (((bs.take (m+1)).map cnb).all (uy vh)=true):=by
    unfold Hid
    rw[(List.take_append_getElem hlt).symm,List.map_append,List.all_append,hya]
    simp only[List.map_cons,List.map_nil,List.all_cons,List.all_nil]
    rw[hbo.out,h1,h2]
    rfl
   have r1:True:=trivial
   go_region_law (first
    | (clear r1;refine zak w.heap.size rfl (.tmp 30) (.tmp 32) rfl u4 ys.length ys (by simp[Act.eval,Act.put]) (zbh (hown6.alloc _)) (w8.heap.size) 1 ((a1,b1,c1),d1,e1,f1) (by simp[Act.eval,Act.put]) (zcv (zbu rfl ((a1,b1,c1),d1,e1,f1) _)) (by omega) (by rw[zex];simp;omega) ?_;intro v9 w9 hown9 hg9 hat9;have Wb9:=yx (Below.drew (Wb6.alloc hw6 _)) (zbh (hown6.alloc _)) hg9 (Nat.le_refl _);have hkept:=zdo (keep hkept (((zi w8.heap.size w8).alloc (Nat.le_refl _) _).drew)) hg9 hg8 (by simp);replace hK:=hkept;simp only[zc,ka,kb,zb,kfa,kga]at hK;have s1:True:=trivial)
    | (clear r1;refine zak w.heap.size rfl (.tmp 30) (.tmp 32) rfl u4 ys.length ys (by simp[Act.eval,Act.put]) (zbh ((hown6.alloc _).alloc _)) (w8.heap.size) 1 ((a1,b1,c1),d1,e1,f1) (by simp[Act.eval,Act.put]) (zcv ((zbu rfl ((a1,b1,c1),d1,e1,f1) _).lay _)) (by omega) (by rw[zex];simp;omega) ?_;intro v9 w9 hown9 hg9 hat9;have Wb9:=yx (Below.drew ((Wb6.alloc hw6 _).alloc (by simp;omega) _)) (zbh ((hown6.alloc _).alloc _)) hg9 (Nat.le_refl _);have hkept:=zdo (keep hkept ((((zi w8.heap.size w8).alloc (Nat.le_refl _) _).alloc (by simp) _).drew)) hg9 hg8 (by simp);replace hK:=hkept;simp only[zc,ka,kb,zb,kfa,kga]at hK;have s2:True:=trivial)
    | (clear r1;refine zak w.heap.size rfl (.tmp 30) (.tmp 32) rfl u4 ys.length ys (by simp[Act.eval,Act.put]) (zbh ((hown6.alloc _).alloc _)) (w8.heap.size+1) 1 ((a1,b1,c1),d1,e1,f1) (by simp[Act.eval,Act.put]) (zcv (zbu (by simp) ((a1,b1,c1),d1,e1,f1) _)) (by omega) (by rw[zex];simp;omega) ?_;intro v9 w9 hown9 hg9 hat9;have Wb9:=yx (Below.drew ((Wb6.alloc hw6 _).alloc (by simp;omega) _)) (zbh ((hown6.alloc _).alloc _)) hg9 (Nat.le_refl _);have hkept:=zdo (keep hkept ((((zi w8.heap.size w8).alloc (Nat.le_refl _) _).alloc (by simp) _).drew)) hg9 hg8 (by simp);replace hK:=hkept;simp only[zc,ka,kb,zb,kfa,kga]at hK;have s3:True:=trivial)
    | (clear s1;refine zak w.heap.size rfl (.tmp 33) (.tmp 35) rfl v9 (ys.length+1) (ys++[((a1,b1,c1),d1,e1,f1)]) (by simp[Act.eval,Act.put]) (hown9.alloc _) (w9.heap.size) 1 ((a2,b2,c2),d2,e2,f2) (by simp[Act.eval,Act.put]) (zbu rfl ((a2,b2,c2),d2,e2,f2) _) (by omega) (by have:=Wb9.size;first|omega|(simp;omega)) ?_;intro v10 w10 hown10 hg10 hat10;have Wb10:=yx (Wb9.alloc Wb9.size _) (hown9.alloc _) hg10 (Nat.le_refl _))
    | (clear s2;refine zak w.heap.size rfl (.tmp 33) (.tmp 35) rfl v9 (ys.length+1) (ys++[((a1,b1,c1),d1,e1,f1)]) (by simp[Act.eval,Act.put]) hown9 (w8.heap.size+1) 1 ((a2,b2,c2),d2,e2,f2) (by simp[Act.eval,Act.put]) (BoxAt.grown hg9 (zcv (zbu (by simp) ((a2,b2,c2),d2,e2,f2) _)) (hg8 _ (by omega))) (by omega) (by have:=Wb9.size;first|omega|(simp;omega)) ?_;intro v10 w10 hown10 hg10 hat10;have Wb10:=yx Wb9 hown9 hg10 (Nat.le_refl _))
    | (clear s3;refine zak w.heap.size rfl (.tmp 33) (.tmp 35) rfl v9 (ys.length+1) (ys++[((a1,b1,c1),d1,e1,f1)]) (by simp[Act.eval,Act.put]) hown9 (w8.heap.size) 1 ((a2,b2,c2),d2,e2,f2) (by simp[Act.eval,Act.put]) (BoxAt.grown hg9 (zcv ((zbu rfl ((a2,b2,c2),d2,e2,f2) _).lay _)) (hg8 _ (by omega))) (by omega) (by have:=Wb9.size;first|omega|(simp;omega)) ?_;intro v10 w10 hown10 hg10 hat10;have Wb10:=yx Wb9 hown9 hg10 (Nat.le_refl _)))
   all_goals
    clear hK hkept hg9 hat9 hat10 hown9
    go_wp2_with fail
    exact⟨⟨m+1,ys++[((a1,b1,c1),d1,e1,f1)]++[((a2,b2,c2),d2,e2,f2)],by omega,by simp,Wb10.size,by simpa using hown10,by simp;omega,hmapN.out,hallN.out,Wb10⟩,by simp[intOf];omega⟩
  ·obtain rfl:m=bs.length:=by omega
   have hyes:Hid (ok=true):=by
    unfold Hid
    rw[List.take_of_length_le (Nat.le_refl _),List.all_map]at hya
    rw[hOk.out]
    exact hya
   have hym2:ys.map cnb=jc vh (bs.map cnb):=by rw[hym,List.take_of_length_le (Nat.le_refl _)]
   have hown5:=Lib.hid hown4
   clear hown4 hym hya hB
   go_wp2_with fail
   exact bodyPost_ret (v:=.tuple #[u4,.bool true]) (by simp[results,Tryz.results81,go_sem];first|done|(rfl;done)|(repeat' constructor)) rfl ⟨u4,ys,by rw[hyes.out],fun _=>⟨hown5.out,hym2⟩,Wb4⟩
abbrev rgB (b:Bx):(Nat × Nat) × (Nat × Nat) × (Nat × Nat):=((b.1.1,b.2.1),(b.1.2.1,b.2.2.1),(b.1.2.2,b.2.2.2))
def uh (lf hit:Bx→Bool):List Bx→Int→List Bx→Int × Option Bx × List Bx
 | [],n,acc=>(n,none,acc)
 | b::r,n,acc=>if lf b then uh lf hit r (n+1) acc else if hit b then (n+1,some b,acc) else uh lf hit r (n+1) (acc++[b])
def zfb (s:Int × Option Bx × List Bx) (K:Int→List Bx→Option (Int × Int × (Nat × Nat × Nat))):Option (Int × Int × (Nat × Nat × Nat)) :=
 match s.2.1 with
 | some b=>some (1,s.1,qy b)
 | none=>if s.2.2=[] then some (0,s.1,(0,0,0)) else K s.1 s.2.2
def kqc (half:Nat→Nat) (lf hit:Bx→Bool):Nat→List Bx→Int→Option (Int × Int × (Nat × Nat × Nat))
 | 0,bs,n=>zfb (uh lf hit bs n []) fun m _=>some (2,m,(0,0,0))
 | k+1,bs,n=>zfb (uh lf hit bs n []) fun m l=>if l.all (uy half) then kqc half lf hit k (jc half l) m else none

theorem zdq {lf hit lf' hit':Bx→Bool}:∀ (bs:List Bx) (n:Int) (acc:List Bx),(∀ b∈bs,lf b=lf' b∧hit b=hit' b)→uh lf hit bs n acc=uh lf' hit' bs n acc
 | [],_,_,_=>rfl
 | b::r,n,acc,h=>by
  obtain⟨h1,h2⟩:=h b List.mem_cons_self
  have ih:=fun n acc=>zdq r n acc (fun c hc=>h c (List.mem_cons_of_mem _ hc))
  simp only[uh,h1,h2,ih]
theorem zat {lf hit:Bx→Bool} {Q:Bx→Prop}:∀ (bs:List Bx) (n:Int) (acc:List Bx),(∀ b∈bs,Q b)→(∀ b∈acc,Q b)→∀ b∈(uh lf hit bs n acc).2.2,Q b
 | [],_,_,_,h=>h
 | b::r,n,acc,hb,h=>by
  have hr:=fun c hc=>hb c (List.mem_cons_of_mem _ hc)
  unfold uh
  split
  ·exact zat r _ _ hr h
  ·split
   ·exact h
   ·refine zat r _ _ hr fun c hc=>?_
    rcases List.mem_append.1 hc with hc|hc
    ·exact h c hc
    ·simp only[List.mem_cons,List.not_mem_nil,or_false]at hc
     subst hc
     exact hb _ List.mem_cons_self
theorem zh8 {s s':Int × Option Bx × List Bx} {K K':Int→List Bx→Option (Int × Int × (Nat × Nat × Nat))} (hs:s=s') (hK:K s.1 s.2.2=K' s.1 s.2.2):zfb s K=zfb s' K':=by
 subst hs
 unfold zfb
 split
 ·rfl
 ·split
  ·rfl
  ·exact hK
theorem zdc (half:Nat→Nat) (lf hit:Bx→Bool) (k:Nat) (bs:List Bx) (n:Int):kqc half lf hit k bs n=zfb (uh lf hit bs n []) fun m l=>match k with
  | 0=>some (2,m,(0,0,0))
  | k+1=>if l.all (uy half) then kqc half lf hit k (jc half l) m else none:=by cases k<;>rfl
theorem zin {n:Int} {b:Bx} {l:List Bx} {K:Int→List Bx→Option (Int × Int × (Nat × Nat × Nat))}:zfb (n,some b,l) K=some (1,n,qy b):=rfl
theorem zmq {n:Int} {K:Int→List Bx→Option (Int × Int × (Nat × Nat × Nat))}:zfb (n,none,[]) K=some (0,n,(0,0,0)):=rfl
theorem zqw {n:Int} {l:List Bx} {K:Int→List Bx→Option (Int × Int × (Nat × Nat × Nat))} (h:l ≠ []):zfb (n,none,l) K=K n l:=by
 unfold zfb
 simp only
 rw[if_neg h]
theorem zn6 {lf hit lf' hit':Bx→Bool} (h:∀ b,xn b=true→lf b=lf' b∧hit b=hit' b):∀ (k:Nat) (bs:List Bx) (n:Int),(∀ b∈bs,xn b=true)→kqc xk lf hit k bs n=kqc vh lf' hit' k bs n:=by
 intro k
 rw[zuh]
 induction k with
 | zero =>
  intro bs n hb
  exact zh8 (zdq bs n [] fun b hbm=>h b (hb b hbm)) rfl
 | succ k ih =>
  intro bs n hb
  refine zh8 (zdq bs n [] fun b hbm=>h b (hb b hbm)) ?_
  have hl:=zat (lf:=lf) (hit:=hit) bs n [] hb (fun b hb=>by cases hb)
  generalize (uh lf hit bs n []).2.2=l at *
  by_cases ha:l.all (uy vh)=true
  ·rw[if_pos ha,if_pos ha]
   exact ih _ _ (zeu ha)
  ·rw[if_neg ha,if_neg ha]

def lfF (ns ms:List PN) (b:Bx):Bool:=gtk .f32 (zdz (za3 ns (rgB b)) ns.length).1 0 || gtk .f32 (zdz (za3 ms (rgB b)) ms.length).1 0
def lfS (ns ms:List PN) (b:Bx):Bool:=gtk .f32 (zdz (j9 ns (rgB b)) ns.length).1 0 || gtk .f32 (zdz (j9 ms (rgB b)) ms.length).1 0
def zcc (ns ms:List PN) (b:Bx):Bool:=lek .f32 (zh1 ns (qy b)) 0 && lek .f32 (zh1 ms (qy b)) 0
def zcs (ns ms:List PN) (b:Bx):Bool:=lek .f32 (atS ns (qy b)) 0 && lek .f32 (atS ms (qy b)) 0
def gtT (R:Nat × Nat):Bool:=gtk .f32 R.1 0
theorem zfx (r:Nat × Nat) (R:Nat × Nat) (h:cn2 r=R):(FloatKind.f32.format.order r.1 0==some .gt)=gtT R:=by
 subst h
 unfold gtT gtk cn2
 rw[ua]



set_option maxRecDepth 100000 in
theorem zsu (ns ms:List PN) (hokn:qx ns) (hokm:qx ms) (hl:1≤ns.length∧ns.length≤16) (hm:1≤ms.length∧ms.length≤16) (nb no cap mb mo cap2 a b c d e f:Nat) (N:Nat) (hN:N≤6) (w:World) (hsh:∀ i (h:i<ns.length),NodeIn ns[i] nb (no+i*4) w) (hsh2:∀ i (h:i<ms.length),NodeIn ms[i] mb (mo+i*4) w)
  (hbx:zaq (cn .f32 a,cn .f32 b,cn .f32 c) (cn .f32 d,cn .f32 e,cn .f32 f)=true)
  (hv1:∀ w',Below w.heap.size w w'→Calls Tryz.prog 65 #[.agg #[.slice (some ⟨nb,no,none⟩) ns.length cap]] w' (fun e w''=>e=.returned (.bool true)∧Below w'.heap.size w' w''))
  (hv2:∀ w',Below w.heap.size w w'→Calls Tryz.prog 65 #[.agg #[.slice (some ⟨mb,mo,none⟩) ms.length cap2]] w' (fun e w''=>e=.returned (.bool true)∧Below w'.heap.size w' w'')) :
  Calls Tryz.prog 29 #[.agg #[.slice (some ⟨nb,no,none⟩) ns.length cap],.agg #[.slice (some ⟨mb,mo,none⟩) ms.length cap2],ug a b c d e f,.int .i64 (N:Int)] w (zd7 (kqc xk (lfF ns ms) (zcc ns ms) N [cnB a b c d e f] 0) w):=by
 obtain⟨R,hR⟩:∃ R,Hid (R=kqc xk (lfF ns ms) (zcc ns ms) N [cnB a b c d e f] 0):=⟨_,rfl⟩
 rw[← hR.out]
 have t1:True:=trivial
 have hin:(decide (0≤(N:Int)) && decide ((N:Int)≤6))=true:=by simp;omega
 go_enter Tryz.func29,Tryz.ntmps29
 go_upto_region 1 with fail
 generalize hW:(((w.alloc (.cells #[.slice (some ⟨nb,no,none⟩) ns.length cap] 36)).alloc (.cells #[.slice (some ⟨mb,mo,none⟩) ms.length cap2] 36)).alloc (.cells #[F1 a,F1 b,F1 c,F1 d,F1 e,F1 f] 40)).alloc (.cells #[.int .i64 0,.int .i64 0,F1 0,F1 0,F1 0] 54)=W1 at *
 have W1b:Below w.heap.size w W1:=by subst hW;exact zgn ..
 have hkept:=zei false false false true hW;simp only[zr,zq,zo,zv,Nat.reduceAdd]at hkept;clear hW
 have hK:=hkept;simp only[zc,ka,kb,zb,kfa,kga]at hK
 go_upto_region 3 with (first|(clear t1;go_at_call 65;refine (hv1 _ W1b).mono ?_;rintro _ w2⟨rfl,hb1⟩;have W1b:=za W1b hb1;have hkept:=zn hkept hb1 rfl;replace hK:=hkept;simp only[zc,ka,kb,zb,kfa,kga]at hK)|(go_at_call 65;refine (hv2 _ W1b).mono ?_;rintro _ w3⟨rfl,hb1⟩;have W1b:=za W1b hb1;have hkept:=zn hkept hb1 rfl;replace hK:=hkept;simp only[zc,ka,kb,zb,kfa,kga]at hK)|(go_at_call 66;refine (jl _ _ _ _ _ _ _).mono ?_;rintro _ w4⟨rfl,hb1⟩;have W1b:=za W1b hb1;have hkept:=zn hkept hb1 rfl;replace hK:=hkept;simp only[zc,ka,kb,zb,kfa,kga]at hK;rw[hbx])|(go_at_call 82;refine (zgi _ _).mono ?_;rintro _ w5⟨rfl,rfl⟩;rw[hin]))
 have hs1:ShapeIn ns w.heap.size 0 nb no cap w4:=⟨by simp[hK],fun i h=>(hsh i h).keep W1b⟩
 have hs2:ShapeIn ms (w.heap.size+1) 0 mb mo cap2 w4:=⟨by simp[hK],fun i h=>(hsh2 i h).keep W1b⟩
 clear hsh hsh2 hv1 hv2 hin hb1
 have hkC:=Lib.hid hkept
 have h4s:=W1b.size
 go_wp2_with fail
 go_loopw [10,11,12] (fun v q i wr=>∃ (k:Nat) (bs:List Bx) (n:Int),k≤N∧i=.int .i64 (k:Int)∧q=.int .i64 n∧0≤n∧n≤64*(k:Int)∧w4.heap.size≤wr.heap.size∧wr.ownsRow w4.heap.size 40 6 v bs.length (fb bs)∧bs.length≤2 ^ k∧(∀ x∈bs,xn (cnb x)=true)∧R=kqc xk (lfF ns ms) (zcc ns ms) (N-k) (bs.map cnb) n∧Below w4.heap.size w4 wr) (fun _ _ i _=>N+1-(intOf i).toNat)
 case atStart=>exact⟨0,[((a,b,c),d,e,f)],0,by omega,rfl,rfl,by omega,by omega,by simp,World.ownsRow_lit w4 #[F1 a,F1 b,F1 c,F1 d,F1 e,F1 f] 1 (Nat.le_refl _) (by unfold maxLen;omega) rfl,by simp,(fun x hx=>by simp at hx;subst hx;exact hbx),hR.out,zt ..⟩
 case round =>
  obtain⟨k,bs,n,hk,rfl,rfl,hn0,hn1,hsz,hown,hbl,hbk,hRk,Wb⟩:=hrel
  obtain⟨p,g,cp,rfl,hpg,hBx⟩:=zc3 hown rfl
  have hk0:(0:Int)≤(k:Int):=by omega
  have hpos:(0:Int)≤(bs.length:Int):=by omega
  have h2k:2 ^ k≤2 ^ 6:=Nat.pow_le_pow_right (by decide) (by omega)
  have h64:bs.length≤64:=by omega
  obtain⟨S,hS⟩:∃ S,Hid (uh (lfF ns ms) (zcc ns ms) (bs.map cnb) n []=S):=⟨_,rfl⟩
  have hSl:∀ x∈S.2.2,xn x=true:=by
   rw[← hS.out]
   refine zat _ _ _ (fun x hx=>?_) (fun x hx=>by cases hx)
   obtain⟨y,hy,rfl⟩:=List.mem_map.1 hx
   exact hbk y hy
  rename World=>wo
  have hkO:=Lib.hid (keep hkC.out Wb)
  clear hK hown
  go_wp2_with fail
  go_loopw [11,13,45] (fun q v i wr=>∃ (m:Nat) (out:List Bx) (n':Int),m≤bs.length∧i=.int .i64 (m:Int)∧q=.int .i64 n'∧0≤n'∧n'≤n+(m:Int)∧wo.heap.size≤wr.heap.size∧wr.ownsRow wo.heap.size 40 6 v out.length (fb out)∧out.length≤m∧uh (lfF ns ms) (zcc ns ms) ((bs.drop m).map cnb) n' (out.map cnb)=S∧Below wo.heap.size wo wr) (fun _ _ i _=>bs.length-(intOf i).toNat)
  case atStart=>exact⟨0,[],n,by omega,rfl,rfl,hn0,by omega,by simp,World.ownsRow_lit wo #[] 0 (Nat.le_refl _) (by unfold maxLen;omega) rfl,by simp,hS.out,zt ..⟩
  case round =>
   obtain⟨m,out,n',hm',rfl,rfl,hn'0,hn'1,hsz2,hown2,hol,hsc,Wb2⟩:=hrel
   by_cases hlt:m<bs.length
   ·have hlt':(m:Int)<(bs.length:Int):=by omega
    have h0:(0:Int)≤(m:Int):=by omega
    have hpe:=hpg (by intro h;rw[h]at hlt;simp at hlt)
    subst hpe
    have hb:=(hBx.keep Wb2) m hlt
    rw[List.drop_eq_getElem_cons hlt,List.map_cons]at hsc
    obtain⟨⟨⟨a,b,c⟩,d,e,f⟩,hbx2⟩:∃ x,x=bs[m]:=⟨_,rfl⟩
    rw[← hbx2]at hb hsc
    have c0:=hb 0 _ rfl
    have c1:=hb 1 _ rfl
    have c2:=hb 2 _ rfl
    have c3:=hb 3 _ rfl
    have c4:=hb 4 _ rfl
    have c5:=hb 5 _ rfl
    simp only[Nat.add_zero,Nat.zero_add]at c0 c1 c2 c3 c4 c5
    clear hb
    have hsh1:=(hs1.keep (za Wb Wb2)).keep (show Below wr.heap.size wr (wr.alloc (.cells #[F1 a,F1 b,F1 c,F1 d,F1 e,F1 f] 40)) from zt ..)
    have hsh2:=(hs2.keep (za Wb Wb2)).keep (show Below wr.heap.size wr (wr.alloc (.cells #[F1 a,F1 b,F1 c,F1 d,F1 e,F1 f] 40)) from zt ..)
    have hra:=fun w' h=>zgp ns hokn ⟨hl.1,by omega⟩ w.heap.size 0 nb no cap a b c d e f w' h
    have hrb:=fun w' h=>zgp ms hokm ⟨hm.1,by omega⟩ (w.heap.size+1) 0 mb mo cap2 a b c d e f w' h
    have hBA:∀ w':World,Below (wr.alloc (.cells #[F1 a,F1 b,F1 c,F1 d,F1 e,F1 f] 40)).heap.size (wr.alloc (.cells #[F1 a,F1 b,F1 c,F1 d,F1 e,F1 f] 40)) w'→BoxAt wr.heap.size 0 ((a,b,c),d,e,f) w':=fun w' hb=>BoxAt.keep (zbu rfl ((a,b,c),d,e,f) _) hb
    clear hBx hpg
    go_upto_region 11 with fail
    have Wb9:Below wo.heap.size wo (wr.alloc (.cells #[F1 a,F1 b,F1 c,F1 d,F1 e,F1 f] 40)):=Wb2.alloc hsz2 _
    have hown9:(wr.alloc (.cells #[F1 a,F1 b,F1 c,F1 d,F1 e,F1 f] 40)).ownsRow wo.heap.size 40 6 u13 out.length (fb out):=hown2.alloc _
    have hkept:zc [(⟨wr.heap.size,0,none⟩,F1 a),(⟨wr.heap.size,1,none⟩,F1 b),(⟨wr.heap.size,2,none⟩,F1 c),(⟨wr.heap.size,3,none⟩,F1 d),(⟨wr.heap.size,4,none⟩,F1 e),(⟨wr.heap.size,5,none⟩,F1 f)] [] (wr.alloc (.cells #[F1 a,F1 b,F1 c,F1 d,F1 e,F1 f] 40)):=by simp only[zc,ka,kb,zb,kfa,kga];simp
    clear Wb2 hown2 c0 c1 c2 c3 c4 c5
    generalize wr.alloc (.cells #[F1 a,F1 b,F1 c,F1 d,F1 e,F1 f] 40)=w9 at *
    have hK:=hkept;simp only[zc,ka,kb,zb,kfa,kga]at hK
    have hr0:(0:Int)≤(ns.length:Int)-1:=by omega
    have hr3:((ns.length:Int)-1).toNat=ns.length-1:=by omega
    have hr4:(ns.length:Int)-1<(ns.length:Int):=by omega
    have hs0:(0:Int)≤(ms.length:Int)-1:=by omega
    have hs3:((ms.length:Int)-1).toNat=ms.length-1:=by omega
    have hs4:(ms.length:Int)-1<(ms.length:Int):=by omega
    obtain⟨pa,hpa⟩:∃ pa,gtT (zdz (za3 ns ((cn .f32 a,cn .f32 d),(cn .f32 b,cn .f32 e),(cn .f32 c,cn .f32 f))) ns.length)=pa:=⟨_,rfl⟩
    obtain⟨pb,hpb'⟩:∃ pb,gtT (zdz (za3 ms ((cn .f32 a,cn .f32 d),(cn .f32 b,cn .f32 e),(cn .f32 c,cn .f32 f))) ms.length)=pb:=⟨_,rfl⟩
    have hlf:lfF ns ms (cnb ((a,b,c),d,e,f))=(pa || pb):=by rw[← hpa,← hpb'];rfl
    unfold zdz at hpa hpb'
    have hscH:=Lib.hid hsc
    clear hsc
    have r1:True:=trivial
    have R9:=zi w9.heap.size w9
    cases pa
    ·have r2:True:=trivial
     cases pb
     ·go_upto_region 12 with (first
       | (clear r2;go_at_call 67;refine (hra _ hsh1).mono ?_;rintro _ w10⟨g1,O1,rfl,hpb,hO,hg,hb1⟩;have Wb9:=za Wb9 hb1;have hown9:=yg hown9 hb1;have R9:=za R9 hb1;have hsh1:=hsh1.keep hb1;have hsh2:=hsh2.keep hb1;have hkept:=zn hkept hb1 rfl;replace hK:=hkept;simp only[zc,ka,kb,zb,kfa,kga]at hK;obtain⟨q0,q1⟩:=jn hpb (ns.length-1) (by omega);have hg1:=(zfx _ _ (hO (ns.length-1) (by omega))).trans hpa;clear hO hpb q1 hg)
       | (clear r1;go_at_call 83;refine (zav _ _ _ _ _ _ hsh1.list).mono ?_;rintro _ wl ⟨rfl,rfl⟩;rw[zaw ⟨hl.1,by omega⟩])
       | (go_at_call 67;refine (hrb _ hsh2).mono ?_;rintro _ w11⟨g2,O2,rfl,hpb,hO,hg,hb1⟩;have Wb9:=za Wb9 hb1;have hown9:=yg hown9 hb1;have R9:=za R9 hb1;have hsh1:=hsh1.keep hb1;have hsh2:=hsh2.keep hb1;have hkept:=zn hkept hb1 rfl;replace hK:=hkept;simp only[zc,ka,kb,zb,kfa,kga]at hK;obtain⟨q2,q3⟩:=jn hpb (ms.length-1) (by omega);have hg2:=(zfx _ _ (hO (ms.length-1) (by omega))).trans hpb';clear hO hpb q3 hg)
       | (go_at_call 83;refine (zav _ _ _ _ _ _ hsh2.list).mono ?_;rintro _ wl2 ⟨rfl,rfl⟩;rw[zaw ⟨hm.1,by omega⟩]))
      clear hra hrb hpa hpb' hg1 hg2 q0 q2 hb1
      go_upto_region 13 with (go_at_call 84;refine (zph wr.heap.size 0 a b c d e f _ (hBA _ R9)).mono ?_;rintro _ w12⟨x,y,z,rfl,hx,hy,hz,hb1⟩;have Wb9:=za Wb9 hb1;have hown9:=yg hown9 hb1;have hsh1:=hsh1.keep hb1;have hsh2:=hsh2.keep hb1;have hkept:=zn hkept hb1 rfl;replace hK:=hkept;simp only[zc,ka,kb,zb,kfa,kga]at hK)
      have hb2:Below w12.heap.size w12 (w12.alloc (.cells #[F1 x,F1 y,F1 z] 38)):=zt ..
      have Wb13:=za Wb9 hb2
      have hown13:=yg hown9 hb2
      have hsh1:=hsh1.keep hb2
      have hsh2:=hsh2.keep hb2
      have hkept:=ze (keep hkO.out Wb13) (ze (keep hkept hb2) (show zc [(⟨w12.heap.size,0,none⟩,F1 x),(⟨w12.heap.size,1,none⟩,F1 y),(⟨w12.heap.size,2,none⟩,F1 z)] [] (w12.alloc (.cells #[F1 x,F1 y,F1 z] 38)) by simp only[zc,ka,kb,zb,kfa,kga];simp))
      have hhit:zcc ns ms (cnb ((a,b,c),d,e,f))=(lek .f32 (zh1 ns (cn .f32 x,cn .f32 y,cn .f32 z)) 0 && lek .f32 (zh1 ms (cn .f32 x,cn .f32 y,cn .f32 z)) 0):=by
       unfold zcc
       rw[show qy (cnb ((a,b,c),d,e,f))=(cn .f32 x,cn .f32 y,cn .f32 z) by rw[hx,hy,hz]]
      have hmid:(cn .f32 x,cn .f32 y,cn .f32 z)=qy (cnb ((a,b,c),d,e,f)):=by rw[hx,hy,hz]
      clear Wb9 hown9 hb1 hb2 hK hBA R9 hx hy hz
      generalize w12.alloc (.cells #[F1 x,F1 y,F1 z] 38)=w13 at *
      have hat1:∀ w',ShapeIn ns w.heap.size 0 nb no cap w'→Calls Tryz.prog 85 #[.pointer (some ⟨w.heap.size,0,none⟩),V3 x y z] w' (Ret .f32 (zh1 ns (cn .f32 x,cn .f32 y,cn .f32 z)) w'):=fun w' h=>zuy ns hokn ⟨hl.1,by omega⟩ w.heap.size 0 nb no cap x y z w' h
      have hat2:∀ w',ShapeIn ms (w.heap.size+1) 0 mb mo cap2 w'→Calls Tryz.prog 85 #[.pointer (some ⟨w.heap.size+1,0,none⟩),V3 x y z] w' (Ret .f32 (zh1 ms (cn .f32 x,cn .f32 y,cn .f32 z)) w'):=fun w' h=>zuy ms hokm ⟨hm.1,by omega⟩ (w.heap.size+1) 0 mb mo cap2 x y z w' h
      have r3:True:=trivial
      generalize zh1 ns (cn .f32 x,cn .f32 y,cn .f32 z)=D1 at *
      generalize zh1 ms (cn .f32 x,cn .f32 y,cn .f32 z)=D2 at *
      have hK:=hkept;simp only[zc,ka,kb,zb,kfa,kga]at hK
      go_wp2_with (first
       | (clear r3;go_at_call 85;refine (hat1 _ hsh1).mono ?_;rintro _ w14⟨rA,rfl,hrA,hb1⟩;have Wb13:=za Wb13 hb1;have hown13:=yg hown13 hb1;have hsh2:=hsh2.keep hb1;have hkept:=zn hkept hb1 rfl;replace hK:=hkept;simp only[zc,ka,kb,zb,kfa,kga]at hK)
       | (go_at_call 85;refine (hat2 _ hsh2).mono ?_;rintro _ w15⟨rB,rfl,hrB,hb1⟩;have Wb13:=za Wb13 hb1;have hown13:=yg hown13 hb1;have hkept:=zn hkept hb1 rfl;replace hK:=hkept;simp only[zc,ka,kb,zb,kfa,kga]at hK)
       | (at_builtin;refine zp6 wo.heap.size rfl (.tmp 79) (.tmp 81) rfl _ _ out rfl (hown13.alloc _) _ 1 ((a,b,c),d,e,f) rfl (zbu rfl ((a,b,c),d,e,f) _) (by omega) (by have:=Wb13.size;simp;omega) ?_;intro v5 w16 hown16 hg16))
      ·rename_i hh
       have hx1:lek .f32 D1 0=true:=by rw[← hrA,za0 (ye _),Bool.or_eq_true];exact hh.1
       have hx2:lek .f32 D2 0=true:=by rw[← hrB,za0 (ye _),Bool.or_eq_true];exact hh.2
       have hSe:S=(n'+1,some (cnb ((a,b,c),d,e,f)),out.map cnb):=by
        rw[← hscH.out,uh,hlf,if_neg (by simp),hhit,hx1,hx2,if_pos (by simp)]
       have hRf:R=some (1,n'+1,(cn .f32 x,cn .f32 y,cn .f32 z)):=by rw[hRk,zdc,hS.out,hSe,zin,hmid]
       exact bodyPost_ret (v:=.tuple #[.agg #[.int .i64 1,.int .i64 (n'+1),F1 x,F1 y,F1 z],.bool true]) (by simp[results,Tryz.results29,go_sem,hK,zf,zh]) rfl (zai hRf rfl (zcx (za (za W1b Wb) Wb13) (by omega) _ _ _ _ _))
      ·rename_i hh
       have hhf:zcc ns ms (cnb ((a,b,c),d,e,f))=false:=by
        rw[hhit,← hrA,← hrB,za0 (ye _),za0 (ye _)]
        rcases hh with⟨h1,h2⟩|⟨h1,h2⟩<;>rw[h1,h2]<;>simp
       have hnx:uh (lfF ns ms) (zcc ns ms) ((bs.drop (m+1)).map cnb) (n'+1) ((out++[((a,b,c),d,e,f)]).map cnb)=S:=by
        rw[← hscH.out,uh,hlf,if_neg (by simp),hhf,if_neg (by simp),List.map_append];rfl
       exact⟨⟨m+1,out++[((a,b,c),d,e,f)],n'+1,by omega,by simp,rfl,by omega,by omega,Nat.le_trans Wb13.size (by have:=hg16.size;simp at this ⊢;omega),by simpa using hown16,by simp;omega,hnx,yx (Wb13.alloc Wb13.size _) (hown13.alloc _) hg16 (Nat.le_refl _)⟩,by simp[intOf];omega⟩
      ·rename_i hh
       have hhf:zcc ns ms (cnb ((a,b,c),d,e,f))=false:=by
        simp only[not_or]at hh
        rw[hhit,← hrA,za0 (ye _),beq_eq_false_iff_ne.2 hh.1,beq_eq_false_iff_ne.2 hh.2]
        simp
       have hnx:uh (lfF ns ms) (zcc ns ms) ((bs.drop (m+1)).map cnb) (n'+1) ((out++[((a,b,c),d,e,f)]).map cnb)=S:=by
        rw[← hscH.out,uh,hlf,if_neg (by simp),hhf,if_neg (by simp),List.map_append];rfl
       exact⟨⟨m+1,out++[((a,b,c),d,e,f)],n'+1,by omega,by simp,rfl,by omega,by omega,Nat.le_trans Wb13.size (by have:=hg16.size;simp at this ⊢;omega),by simpa using hown16,by simp;omega,hnx,yx (Wb13.alloc Wb13.size _) (hown13.alloc _) hg16 (Nat.le_refl _)⟩,by simp[intOf];omega⟩
     ·go_wp2_with (first
       | (clear r2;go_at_call 67;refine (hra _ hsh1).mono ?_;rintro _ w10⟨g1,O1,rfl,hpb,hO,hg,hb1⟩;have Wb9:=za Wb9 hb1;have hown9:=yg hown9 hb1;have R9:=za R9 hb1;have hsh1:=hsh1.keep hb1;have hsh2:=hsh2.keep hb1;have hkept:=zn hkept hb1 rfl;replace hK:=hkept;simp only[zc,ka,kb,zb,kfa,kga]at hK;obtain⟨q0,q1⟩:=jn hpb (ns.length-1) (by omega);have hg1:=(zfx _ _ (hO (ns.length-1) (by omega))).trans hpa;clear hO hpb q1 hg)
       | (clear r1;go_at_call 83;refine (zav _ _ _ _ _ _ hsh1.list).mono ?_;rintro _ wl ⟨rfl,rfl⟩;rw[zaw ⟨hl.1,by omega⟩])
       | (go_at_call 67;refine (hrb _ hsh2).mono ?_;rintro _ w11⟨g2,O2,rfl,hpb,hO,hg,hb1⟩;have Wb9:=za Wb9 hb1;have hown9:=yg hown9 hb1;have R9:=za R9 hb1;have hsh1:=hsh1.keep hb1;have hsh2:=hsh2.keep hb1;have hkept:=zn hkept hb1 rfl;replace hK:=hkept;simp only[zc,ka,kb,zb,kfa,kga]at hK;obtain⟨q2,q3⟩:=jn hpb (ms.length-1) (by omega);have hg2:=(zfx _ _ (hO (ms.length-1) (by omega))).trans hpb';clear hO hpb q3 hg)
       | (go_at_call 83;refine (zav _ _ _ _ _ _ hsh2.list).mono ?_;rintro _ wl2 ⟨rfl,rfl⟩;rw[zaw ⟨hm.1,by omega⟩]))
      exact⟨⟨m+1,out,n'+1,by omega,by simp,rfl,by omega,by omega,Wb9.size,hown9,by omega,by have h:=hscH.out;rw[uh,hlf]at h;simpa using h,Wb9⟩,by simp[intOf];omega⟩
    ·go_wp2_with (first
      | (go_at_call 67;refine (hra _ hsh1).mono ?_;rintro _ w10⟨g1,O1,rfl,hpb,hO,hg,hb1⟩;have Wb9:=za Wb9 hb1;have hown9:=yg hown9 hb1;have R9:=za R9 hb1;have hsh1:=hsh1.keep hb1;have hsh2:=hsh2.keep hb1;have hkept:=zn hkept hb1 rfl;replace hK:=hkept;simp only[zc,ka,kb,zb,kfa,kga]at hK;obtain⟨q0,q1⟩:=jn hpb (ns.length-1) (by omega);have hg1:=(zfx _ _ (hO (ns.length-1) (by omega))).trans hpa;clear hO hpb q1 hg)
      | (clear r1;go_at_call 83;refine (zav _ _ _ _ _ _ hsh1.list).mono ?_;rintro _ wl ⟨rfl,rfl⟩;rw[zaw ⟨hl.1,by omega⟩]))
     exact⟨⟨m+1,out,n'+1,by omega,by simp,rfl,by omega,by omega,Wb9.size,hown9,by omega,by have h:=hscH.out;rw[uh,hlf]at h;simpa using h,Wb9⟩,by simp[intOf];omega⟩
   ·obtain rfl:m=bs.length:=by omega
    rw[List.drop_length,List.map_nil,uh]at hsc
    have hRs:R=zfb (n',none,out.map cnb) (fun m l=>match N-k with
      | 0=>some (2,m,(0,0,0))
      | k+1=>if l.all (uy xk) then kqc xk (lfF ns ms) (zcc ns ms) k (jc xk l) m else none):=by rw[hRk,zdc,hS.out,← hsc]<;>rfl
    have hSo:∀ x∈out.map cnb,xn x=true:=by rw[← hsc]at hSl;exact hSl
    have hkept:=keep hkO.out Wb2
    have W2b:=za Wb Wb2
    have hsz3:w4.heap.size≤wr.heap.size:=Nat.le_trans hsz hsz2
    obtain⟨p2,g2,cp2,rfl,hpg2,hBx2⟩:=zc3 hown2 rfl
    have hposo:(0:Int)≤(out.length:Int):=by omega
    clear hRk hS hSl hsc hown2 hBx hlt
    have hK:=hkept;simp only[zc,ka,kb,zb,kfa,kga]at hK
    by_cases hnil:out=[]
    ·subst hnil
     have hRf:R=some (0,n',(0,0,0)):=by rw[hRs];exact zmq
     clear hRs hBx2 hSo
     go_wp2_with fail
     exact bodyPost_ret (v:=.tuple #[.agg #[.int .i64 0,.int .i64 n',F1 0,F1 0,F1 0],.bool true]) (by simp[results,Tryz.results29,go_sem,hK,zf,zh]) rfl (zai hRf (by rw[ye]) (zcx (za W1b W2b) (by omega) _ _ _ _ _))
    have hol0:((out.length:Int)==0)=false:=by
     rw[beq_eq_false_iff_ne]
     intro h
     exact hnil (List.length_eq_zero_iff.1 (by omega))
    rw[zqw (by simpa using hnil)]at hRs
    by_cases hkN:k=N
    ·subst hkN
     rw[Nat.sub_self]at hRs
     simp only at hRs
     have hRf:R=some (2,n',(0,0,0)):=hRs
     clear hBx2 hSo hRs
     go_wp2_with fail
     exact bodyPost_ret (v:=.tuple #[.agg #[.int .i64 2,.int .i64 n',F1 0,F1 0,F1 0],.bool true]) (by simp[results,Tryz.results29,go_sem,hK,zf,zh]) rfl (zai hRf (by rw[ye]) (zcx (za W1b W2b) (by omega) _ _ _ _ _))
    have hkN':((k:Int)==(N:Int))=false:=by rw[beq_eq_false_iff_ne];omega
    rw[show N-k=(N-k-1)+1 by omega]at hRs
    simp only at hRs
    have hspl:=zjd out g2 0 cp2 p2 wr hpg2 hBx2 (by omega)
    have hall:(out.all fun b=>zcl xk (cnb b))=(out.map cnb).all (uy xk):=by
     rw[← zk1 hSo,List.all_map];rfl
    rw[hall]at hspl
    have hRsH:=Lib.hid hRs
    clear hRs hBx2 hpg2
    cases hab:(out.map cnb).all (uy xk)
    ·have hno:R=none:=by rw[hRsH.out,hab];rfl
     rw[hab]at hspl
     go_wp2_with (go_at_call 76;refine hspl.mono ?_;rintro _ w20⟨v20,bs2,rfl,hx20,hb1⟩;have W2b:=za W2b hb1;have hkept:=zn hkept hb1 rfl;replace hK:=hkept;simp only[zc,ka,kb,zb,kfa,kga]at hK)
     exact bodyPost_ret (v:=.tuple #[.agg #[.int .i64 0,.int .i64 0,F1 0,F1 0,F1 0],.bool false]) (by simp[results,Tryz.results29,go_sem,hK,zf,zh]) rfl (j7 hno (zcx (za W1b W2b) (by omega) _ _ _ _ _))
    ·rw[hab]at hspl
     have hRn:R=kqc xk (lfF ns ms) (zcc ns ms) (N-k-1) (jc xk (out.map cnb)) n':=by rw[hRsH.out,hab];rfl
     have hRnH:=Lib.hid hRn
     clear hRn hRsH
     go_wp2_with (go_at_call 76;refine hspl.mono ?_;rintro _ w20⟨v20,bs2,rfl,hx20,hb1⟩;have W2b:=za W2b hb1;replace hx20:=Lib.hid (hx20 rfl))
     obtain⟨ho20,hm20⟩:=hx20.out
     have hbl2:bs2.length=2*out.length:=by
      have:=congrArg List.length hm20
      rw[zdm,List.length_map,List.length_map]at this
      exact this
     refine⟨⟨k+1,bs2,n',by omega,by simp,rfl,by omega,by omega,W2b.size,znr ho20 (by omega),by rw[Nat.pow_succ];omega,?_,?_,W2b⟩,by simp[intOf];omega⟩
     ·intro x hx
      exact zeu hab (cnb x) (by rw[← hm20];exact List.mem_map_of_mem hx)
     ·rw[hRnH.out,hm20,show N-(k+1)=N-k-1 by omega]
end Go.Proofs.YtbiacfkiakddiaaGreat
