/-
 Lemmas: V31.
-/
import Derived.Test.YtbiacfkiakddiaaGreatXbt
set_option linter.unusedVariables false
set_option linter.unusedSimpArgs false
namespace Go.Proofs.YtbiacfkiakddiaaGreat
open Go.RowKit Go.Fl
set_option maxRecDepth 100000 in
set_option maxHeartbeats 1000000 in
theorem zvk (a b c d e f:Nat) (w:World) :
  Calls Tryz.prog 16 #[ug a b c d e f] w (fun e' w'=>e'=.returned (ug a b c d e f)∧Below w.heap.size w w'):=by
 go_enter Tryz.func16,Tryz.ntmps16
 go_upto_region 2 with fail
 generalize hW:((w.alloc (.cells #[F1 a,F1 b,F1 c,F1 d,F1 e,F1 f] 29)).alloc (.cells #[F1 0,F1 0,F1 0,F1 0,F1 0,F1 0] 40)).alloc (.cells #[F1 0,F1 0,F1 0,F1 0,F1 0,F1 0] 40)=W1 at *
 have W1b:Below w.heap.size w W1:=by subst hW;exact vc ..
 have hkept:=xg false true true hW;simp only[zr,zq,zo,zv,Nat.reduceAdd]at hkept;clear hW
 have hK:=hkept;simp only[zc,ka,kb,zb,kfa,kga]at hK
 go_upto_region 3 with (go_at_call 64;refine (zix _ _ _ _).mono ?_;rintro _ w2⟨rfl,hb1⟩;have W2b:=za W1b hb1;have hkept:=zn hkept hb1 rfl;replace hK:=hkept;simp only[zc,ka,kb,zb,kfa,kga]at hK)
 have W3b:Below w.heap.size w (((w2.setCell ⟨w.heap.size+1+1,0,none⟩ (F1 a)).setCell ⟨w.heap.size+1+1,1,none⟩ (F1 b)).setCell ⟨w.heap.size+1+1,2,none⟩ (F1 c)):=((W2b.setCell (p:=⟨w.heap.size+1+1,0,none⟩) (by show w.heap.size≤w.heap.size+1+1;omega) _).setCell (p:=⟨w.heap.size+1+1,1,none⟩) (by show w.heap.size≤w.heap.size+1+1;omega) _).setCell (p:=⟨w.heap.size+1+1,2,none⟩) (by show w.heap.size≤w.heap.size+1+1;omega) _
 have hkept:zc [(⟨w.heap.size,0,none⟩,F1 a),(⟨w.heap.size,1,none⟩,F1 b),(⟨w.heap.size,2,none⟩,F1 c),(⟨w.heap.size,3,none⟩,F1 d),(⟨w.heap.size,4,none⟩,F1 e),(⟨w.heap.size,5,none⟩,F1 f),(⟨w.heap.size+1,0,none⟩,F1 0),(⟨w.heap.size+1,1,none⟩,F1 0),(⟨w.heap.size+1,2,none⟩,F1 0),(⟨w.heap.size+1,3,none⟩,F1 0),(⟨w.heap.size+1,4,none⟩,F1 0),(⟨w.heap.size+1,5,none⟩,F1 0),(⟨w.heap.size+1+1,0,none⟩,F1 a),(⟨w.heap.size+1+1,1,none⟩,F1 b),(⟨w.heap.size+1+1,2,none⟩,F1 c),(⟨w.heap.size+1+1,3,none⟩,F1 0),(⟨w.heap.size+1+1,4,none⟩,F1 0),(⟨w.heap.size+1+1,5,none⟩,F1 0)] [⟨w.heap.size+1,0,none⟩,⟨w.heap.size+1,1,none⟩,⟨w.heap.size+1,2,none⟩,⟨w.heap.size+1,3,none⟩,⟨w.heap.size+1,4,none⟩,⟨w.heap.size+1,5,none⟩,⟨w.heap.size+1+1,0,none⟩,⟨w.heap.size+1+1,1,none⟩,⟨w.heap.size+1+1,2,none⟩,⟨w.heap.size+1+1,3,none⟩,⟨w.heap.size+1+1,4,none⟩,⟨w.heap.size+1+1,5,none⟩] (((w2.setCell ⟨w.heap.size+1+1,0,none⟩ (F1 a)).setCell ⟨w.heap.size+1+1,1,none⟩ (F1 b)).setCell ⟨w.heap.size+1+1,2,none⟩ (F1 c)):=by
  simp only[zc,ka,kb,zb,kfa,kga];simp[hK,zf,zh,yk]
 generalize ((w2.setCell ⟨w.heap.size+1+1,0,none⟩ (F1 a)).setCell ⟨w.heap.size+1+1,1,none⟩ (F1 b)).setCell ⟨w.heap.size+1+1,2,none⟩ (F1 c)=w3 at *
 clear hK hb1 W2b W1b
 have hK:=hkept;simp only[zc,ka,kb,zb,kfa,kga]at hK
 go_upto_region 4 with (go_at_call 64;refine (zix _ _ _ _).mono ?_;rintro _ w4⟨rfl,hb1⟩;have W4b:=za W3b hb1;have hkept:=zn hkept hb1 rfl;replace hK:=hkept;simp only[zc,ka,kb,zb,kfa,kga]at hK)
 have W5b:Below w.heap.size w (((w4.setCell ⟨w.heap.size+1+1,3,none⟩ (F1 d)).setCell ⟨w.heap.size+1+1,4,none⟩ (F1 e)).setCell ⟨w.heap.size+1+1,5,none⟩ (F1 f)):=((W4b.setCell (p:=⟨w.heap.size+1+1,3,none⟩) (by show w.heap.size≤w.heap.size+1+1;omega) _).setCell (p:=⟨w.heap.size+1+1,4,none⟩) (by show w.heap.size≤w.heap.size+1+1;omega) _).setCell (p:=⟨w.heap.size+1+1,5,none⟩) (by show w.heap.size≤w.heap.size+1+1;omega) _
 have hkept:zc [(⟨w.heap.size+1,0,none⟩,F1 0),(⟨w.heap.size+1,1,none⟩,F1 0),(⟨w.heap.size+1,2,none⟩,F1 0),(⟨w.heap.size+1,3,none⟩,F1 0),(⟨w.heap.size+1,4,none⟩,F1 0),(⟨w.heap.size+1,5,none⟩,F1 0),(⟨w.heap.size+1+1,0,none⟩,F1 a),(⟨w.heap.size+1+1,1,none⟩,F1 b),(⟨w.heap.size+1+1,2,none⟩,F1 c),(⟨w.heap.size+1+1,3,none⟩,F1 d),(⟨w.heap.size+1+1,4,none⟩,F1 e),(⟨w.heap.size+1+1,5,none⟩,F1 f)] [⟨w.heap.size+1,0,none⟩,⟨w.heap.size+1,1,none⟩,⟨w.heap.size+1,2,none⟩,⟨w.heap.size+1,3,none⟩,⟨w.heap.size+1,4,none⟩,⟨w.heap.size+1,5,none⟩] (((w4.setCell ⟨w.heap.size+1+1,3,none⟩ (F1 d)).setCell ⟨w.heap.size+1+1,4,none⟩ (F1 e)).setCell ⟨w.heap.size+1+1,5,none⟩ (F1 f)):=by
  simp only[zc,ka,kb,zb,kfa,kga];simp[hK,zf,zh,yk]
 generalize ((w4.setCell ⟨w.heap.size+1+1,3,none⟩ (F1 d)).setCell ⟨w.heap.size+1+1,4,none⟩ (F1 e)).setCell ⟨w.heap.size+1+1,5,none⟩ (F1 f)=w5 at *
 clear hK hb1 W4b W3b
 have hK:=hkept;simp only[zc,ka,kb,zb,kfa,kga]at hK
 go_wp2_with fail
 exact bodyPost_ret (v:=ug a b c d e f) (by simp[results,Tryz.results16,go_sem,hK,zf,zh]) rfl ⟨rfl,xr W5b (by omega) ..⟩

end Go.Proofs.YtbiacfkiakddiaaGreat
