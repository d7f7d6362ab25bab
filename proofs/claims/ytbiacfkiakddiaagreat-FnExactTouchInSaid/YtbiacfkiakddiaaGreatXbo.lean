/-
 Lemmas: V23,V27,V33.
-/
import Derived.Test.YtbiacfkiakddiaaGreatXbl
set_option linter.unusedVariables false
set_option linter.unusedSimpArgs false
set_option maxHeartbeats 2000000
namespace Go.Proofs.YtbiacfkiakddiaaGreat
open Go.RowKit Go.Fl
inductive PhiPl2:FuncId→Array Value→Value→Prop
set_option maxRecDepth 100000 in
theorem zob {b o bv ov cap r0 x0 x1 y0 y1 z0 z1:Nat} {bp:Option Addr} {w:World} (hN:zc [(⟨b,o,none⟩,.int .i64 10),(⟨b,o+2,none⟩,.int .i64 0),(⟨b,o+3,none⟩,.slice (some ⟨bv,ov,none⟩) 1 cap),(⟨bv,ov,none⟩,F1 r0)] [] w) :
  Calls Tryz.prog 134 #[.pointer (some ⟨b,o,none⟩),Rg3 x0 x1 y0 y1 z0 z1] w (vn (uq (cn .f32 r0) (cn .f32 x0,cn .f32 x1),uq (cn .f32 r0) (cn .f32 y0,cn .f32 y1),uq (cn .f32 r0) (cn .f32 z0,cn .f32 z1)) w):=by
 have hK:=hN
 simp only[zc,ka,kb,zb,kfa,kga]at hK
 have hb:b<w.heap.size:=zg (a:=⟨b,o,none⟩) (by rw[hK.1];rfl)
 go_enter Tryz.func134,Tryz.ntmps134
 go_upto_region 1 with fail
 clear hK
 generalize hW:(w.alloc (.cells #[F1 x0,F1 x1,F1 y0,F1 y1,F1 z0,F1 z1] 197)).alloc (.cells #[F1 0,F1 0,F1 0,F1 0,F1 0,F1 0] 197)=W1 at *
 have W1b:Below w.heap.size w W1:=by subst hW;exact xa ..
 have hkept:=yt true true hW;simp only[zr,zq,zo,zv,Nat.reduceAdd]at hkept;clear hW
 have hkept:=ze (keep hN W1b) hkept
 have hK:=hkept;simp only[zc,ka,kb,zb,kfa,kga]at hK
 have hb1:b<W1.heap.size:=Nat.lt_of_lt_of_le hb W1b.size
 go_upto_region 2 with fail
 refine Qr.wp_below_all (by kernel_rfl) (by kernel_rfl) PhiPl2 ?_
 repeat (first|(refine Qr.walk_plain rfl fun K hK=>?_;refine zk _ _ _ _ _ rfl _ _ _ rfl rfl rfl (fun r hr=>?_);go_simp;refine hK _ ?_;clear hK K)|(refine Qr.walk_plain rfl fun K hK=>?_;apply Qr.one_det;(focus (intro w' hw';have HK:=keep hkept hw';simp only[zc,ka,kb,zb,kfa,kga]at HK;go_simp;first|done|rfl));go_simp;refine hK _ ?_;clear hK K))
 refine Qr.walk_nil fun w6 hw6=>?_
 have hkept:=keep hkept hw6
 have W6b:=za W1b hw6
 clear hK
 have hK:=hkept
 simp only[zc,ka,kb,zb,kfa,kga]at hK
 go_wp2_with fail
 have hc6:zc [(⟨w.heap.size,0,none⟩,F1 x0),(⟨w.heap.size,1,none⟩,F1 x1),(⟨w.heap.size,2,none⟩,F1 y0),(⟨w.heap.size,3,none⟩,F1 y1),(⟨w.heap.size,4,none⟩,F1 z0),(⟨w.heap.size,5,none⟩,F1 z1),(⟨w.heap.size+1,0,none⟩,F1 0),(⟨w.heap.size+1,1,none⟩,F1 0),(⟨w.heap.size+1,2,none⟩,F1 0),(⟨w.heap.size+1,3,none⟩,F1 0),(⟨w.heap.size+1,4,none⟩,F1 0),(⟨w.heap.size+1,5,none⟩,F1 0)] [⟨w.heap.size,0,none⟩,⟨w.heap.size,1,none⟩,⟨w.heap.size,2,none⟩,⟨w.heap.size,3,none⟩,⟨w.heap.size,4,none⟩,⟨w.heap.size,5,none⟩,⟨w.heap.size+1,0,none⟩,⟨w.heap.size+1,1,none⟩,⟨w.heap.size+1,2,none⟩,⟨w.heap.size+1,3,none⟩,⟨w.heap.size+1,4,none⟩,⟨w.heap.size+1,5,none⟩] w6:=by simp only[zc,ka,kb,zb,kfa,kga];simp[hK]
 have hall:∃ (m a0 a1 b0 b1 c0 c1:Nat),Value.int IntKind.i64 0=.int .i64 (m:Int)∧((m=0∧(cn .f32 a0,cn .f32 a1)=(cn .f32 x0,cn .f32 x1)∧(cn .f32 b0,cn .f32 b1)=(cn .f32 y0,cn .f32 y1)∧(cn .f32 c0,cn .f32 c1)=(cn .f32 z0,cn .f32 z1))∨(m=1∧(cn .f32 a0,cn .f32 a1)=uq (cn .f32 r0) (cn .f32 x0,cn .f32 x1)∧(cn .f32 b0,cn .f32 b1)=(cn .f32 y0,cn .f32 y1)∧(cn .f32 c0,cn .f32 c1)=(cn .f32 z0,cn .f32 z1))∨(m=2∧(cn .f32 a0,cn .f32 a1)=uq (cn .f32 r0) (cn .f32 x0,cn .f32 x1)∧(cn .f32 b0,cn .f32 b1)=uq (cn .f32 r0) (cn .f32 y0,cn .f32 y1)∧(cn .f32 c0,cn .f32 c1)=(cn .f32 z0,cn .f32 z1))∨(m=3∧(cn .f32 a0,cn .f32 a1)=uq (cn .f32 r0) (cn .f32 x0,cn .f32 x1)∧(cn .f32 b0,cn .f32 b1)=uq (cn .f32 r0) (cn .f32 y0,cn .f32 y1)∧(cn .f32 c0,cn .f32 c1)=uq (cn .f32 r0) (cn .f32 z0,cn .f32 z1)))∧zc [(⟨w.heap.size,0,none⟩,F1 a0),(⟨w.heap.size,1,none⟩,F1 a1),(⟨w.heap.size,2,none⟩,F1 b0),(⟨w.heap.size,3,none⟩,F1 b1),(⟨w.heap.size,4,none⟩,F1 c0),(⟨w.heap.size,5,none⟩,F1 c1),(⟨w.heap.size+1,0,none⟩,F1 0),(⟨w.heap.size+1,1,none⟩,F1 0),(⟨w.heap.size+1,2,none⟩,F1 0),(⟨w.heap.size+1,3,none⟩,F1 0),(⟨w.heap.size+1,4,none⟩,F1 0),(⟨w.heap.size+1,5,none⟩,F1 0)] [⟨w.heap.size,0,none⟩,⟨w.heap.size,1,none⟩,⟨w.heap.size,2,none⟩,⟨w.heap.size,3,none⟩,⟨w.heap.size,4,none⟩,⟨w.heap.size,5,none⟩,⟨w.heap.size+1,0,none⟩,⟨w.heap.size+1,1,none⟩,⟨w.heap.size+1,2,none⟩,⟨w.heap.size+1,3,none⟩,⟨w.heap.size+1,4,none⟩,⟨w.heap.size+1,5,none⟩] w6∧Below w.heap.size w w6:=⟨0,x0,x1,y0,y1,z0,z1,rfl,.inl ⟨rfl,rfl,rfl,rfl⟩,hc6,W6b⟩
 clear hK hkept hw6 hb1 hc6
 go_loopw [56] (fun i wr=>∃ (m a0 a1 b0 b1 c0 c1:Nat),i=.int .i64 (m:Int)∧((m=0∧(cn .f32 a0,cn .f32 a1)=(cn .f32 x0,cn .f32 x1)∧(cn .f32 b0,cn .f32 b1)=(cn .f32 y0,cn .f32 y1)∧(cn .f32 c0,cn .f32 c1)=(cn .f32 z0,cn .f32 z1))∨(m=1∧(cn .f32 a0,cn .f32 a1)=uq (cn .f32 r0) (cn .f32 x0,cn .f32 x1)∧(cn .f32 b0,cn .f32 b1)=(cn .f32 y0,cn .f32 y1)∧(cn .f32 c0,cn .f32 c1)=(cn .f32 z0,cn .f32 z1))∨(m=2∧(cn .f32 a0,cn .f32 a1)=uq (cn .f32 r0) (cn .f32 x0,cn .f32 x1)∧(cn .f32 b0,cn .f32 b1)=uq (cn .f32 r0) (cn .f32 y0,cn .f32 y1)∧(cn .f32 c0,cn .f32 c1)=(cn .f32 z0,cn .f32 z1))∨(m=3∧(cn .f32 a0,cn .f32 a1)=uq (cn .f32 r0) (cn .f32 x0,cn .f32 x1)∧(cn .f32 b0,cn .f32 b1)=uq (cn .f32 r0) (cn .f32 y0,cn .f32 y1)∧(cn .f32 c0,cn .f32 c1)=uq (cn .f32 r0) (cn .f32 z0,cn .f32 z1)))∧zc [(⟨w.heap.size,0,none⟩,F1 a0),(⟨w.heap.size,1,none⟩,F1 a1),(⟨w.heap.size,2,none⟩,F1 b0),(⟨w.heap.size,3,none⟩,F1 b1),(⟨w.heap.size,4,none⟩,F1 c0),(⟨w.heap.size,5,none⟩,F1 c1),(⟨w.heap.size+1,0,none⟩,F1 0),(⟨w.heap.size+1,1,none⟩,F1 0),(⟨w.heap.size+1,2,none⟩,F1 0),(⟨w.heap.size+1,3,none⟩,F1 0),(⟨w.heap.size+1,4,none⟩,F1 0),(⟨w.heap.size+1,5,none⟩,F1 0)] [⟨w.heap.size,0,none⟩,⟨w.heap.size,1,none⟩,⟨w.heap.size,2,none⟩,⟨w.heap.size,3,none⟩,⟨w.heap.size,4,none⟩,⟨w.heap.size,5,none⟩,⟨w.heap.size+1,0,none⟩,⟨w.heap.size+1,1,none⟩,⟨w.heap.size+1,2,none⟩,⟨w.heap.size+1,3,none⟩,⟨w.heap.size+1,4,none⟩,⟨w.heap.size+1,5,none⟩] wr∧Below w.heap.size w wr) (fun i _=>3-(intOf i).toNat)
 case atStart=>exact hall
 case round =>
  clear hall
  obtain⟨m,a0,a1,b0,b1,c0,c1,rfl,hm,hkept,Wb⟩:=hrel
  have hkept:=ze (keep hN Wb) hkept
  have hK:=hkept;simp only[zc,ka,kb,zb,kfa,kga]at hK
  rcases hm with⟨rfl,e0,e1,e2⟩|⟨rfl,e0,e1,e2⟩|⟨rfl,e0,e1,e2⟩|⟨rfl,e0,e1,e2⟩
  ·go_upto_region 12 with fail
   have hbA:Below wr.heap.size wr (wr.alloc (.cells #[F1 r0] 25)):=zt ..
   have hkept:=ze (keep hkept hbA) (show zc [(⟨wr.heap.size,0,none⟩,F1 r0)] [] (wr.alloc (.cells #[F1 r0] 25)) by simp only[zc,ka,kb,zb,kfa,kga];simp)
   have W2b:=za Wb hbA
   clear hK hbA
   generalize wr.alloc (.cells #[F1 r0] 25)=W2 at *
   have hK:=hkept;simp only[zc,ka,kb,zb,kfa,kga]at hK
   go_upto_region 13 with (go_at_call 209;refine (zbr (fun x=>B .quo x (cn .f32 r0)) ⟨_,0,none⟩ _ _ _ (fun x w' hb=>zeq x r0 _ 0 w' (by have HK2:=keep hkept hb;simp only[zc,ka,kb,zb,kfa,kga]at HK2;simp[HK2]))).mono ?_;rintro _ w8⟨l1,u1,rfl,hr1,hb1⟩;have W3b:=za W2b hb1;have hkept:=zn hkept hb1 rfl;replace hK:=hkept;simp only[zc,ka,kb,zb,kfa,kga]at hK)
   have W4b:=(W3b.setCell (p:=⟨w.heap.size,0,none⟩) (Nat.le_refl _) (F1 l1)).setCell (p:=⟨w.heap.size,1,none⟩) (Nat.le_refl _) (F1 u1)
   have hset:zc [(⟨w.heap.size,0,none⟩,F1 l1),(⟨w.heap.size,1,none⟩,F1 u1),(⟨w.heap.size,2,none⟩,F1 b0),(⟨w.heap.size,3,none⟩,F1 b1),(⟨w.heap.size,4,none⟩,F1 c0),(⟨w.heap.size,5,none⟩,F1 c1),(⟨w.heap.size+1,0,none⟩,F1 0),(⟨w.heap.size+1,1,none⟩,F1 0),(⟨w.heap.size+1,2,none⟩,F1 0),(⟨w.heap.size+1,3,none⟩,F1 0),(⟨w.heap.size+1,4,none⟩,F1 0),(⟨w.heap.size+1,5,none⟩,F1 0)] [⟨w.heap.size,0,none⟩,⟨w.heap.size,1,none⟩,⟨w.heap.size,2,none⟩,⟨w.heap.size,3,none⟩,⟨w.heap.size,4,none⟩,⟨w.heap.size,5,none⟩,⟨w.heap.size+1,0,none⟩,⟨w.heap.size+1,1,none⟩,⟨w.heap.size+1,2,none⟩,⟨w.heap.size+1,3,none⟩,⟨w.heap.size+1,4,none⟩,⟨w.heap.size+1,5,none⟩] ((w8.setCell ⟨w.heap.size,0,none⟩ (F1 l1)).setCell ⟨w.heap.size,1,none⟩ (F1 u1)):=by simp only[zc,ka,kb,zb,kfa,kga];simp[hK,go_sem,zf,zh,yk]
   clear hK hkept
   go_wp2_with fail
   exact⟨⟨1,l1,u1,b0,b1,c0,c1,rfl,.inr (.inl ⟨rfl,by rw[hr1,e0];rfl,e1,e2⟩),hset,W4b⟩,by simp[intOf]⟩
  ·go_upto_region 12 with fail
   have hbA:Below wr.heap.size wr (wr.alloc (.cells #[F1 r0] 25)):=zt ..
   have hkept:=ze (keep hkept hbA) (show zc [(⟨wr.heap.size,0,none⟩,F1 r0)] [] (wr.alloc (.cells #[F1 r0] 25)) by simp only[zc,ka,kb,zb,kfa,kga];simp)
   have W2b:=za Wb hbA
   clear hK hbA
   generalize wr.alloc (.cells #[F1 r0] 25)=W2 at *
   have hK:=hkept;simp only[zc,ka,kb,zb,kfa,kga]at hK
   go_upto_region 13 with (go_at_call 209;refine (zbr (fun x=>B .quo x (cn .f32 r0)) ⟨_,0,none⟩ _ _ _ (fun x w' hb=>zeq x r0 _ 0 w' (by have HK2:=keep hkept hb;simp only[zc,ka,kb,zb,kfa,kga]at HK2;simp[HK2]))).mono ?_;rintro _ w8⟨l1,u1,rfl,hr1,hb1⟩;have W3b:=za W2b hb1;have hkept:=zn hkept hb1 rfl;replace hK:=hkept;simp only[zc,ka,kb,zb,kfa,kga]at hK)
   have W4b:=(W3b.setCell (p:=⟨w.heap.size,2,none⟩) (Nat.le_refl _) (F1 l1)).setCell (p:=⟨w.heap.size,3,none⟩) (Nat.le_refl _) (F1 u1)
   have hset:zc [(⟨w.heap.size,0,none⟩,F1 a0),(⟨w.heap.size,1,none⟩,F1 a1),(⟨w.heap.size,2,none⟩,F1 l1),(⟨w.heap.size,3,none⟩,F1 u1),(⟨w.heap.size,4,none⟩,F1 c0),(⟨w.heap.size,5,none⟩,F1 c1),(⟨w.heap.size+1,0,none⟩,F1 0),(⟨w.heap.size+1,1,none⟩,F1 0),(⟨w.heap.size+1,2,none⟩,F1 0),(⟨w.heap.size+1,3,none⟩,F1 0),(⟨w.heap.size+1,4,none⟩,F1 0),(⟨w.heap.size+1,5,none⟩,F1 0)] [⟨w.heap.size,0,none⟩,⟨w.heap.size,1,none⟩,⟨w.heap.size,2,none⟩,⟨w.heap.size,3,none⟩,⟨w.heap.size,4,none⟩,⟨w.heap.size,5,none⟩,⟨w.heap.size+1,0,none⟩,⟨w.heap.size+1,1,none⟩,⟨w.heap.size+1,2,none⟩,⟨w.heap.size+1,3,none⟩,⟨w.heap.size+1,4,none⟩,⟨w.heap.size+1,5,none⟩] ((w8.setCell ⟨w.heap.size,2,none⟩ (F1 l1)).setCell ⟨w.heap.size,3,none⟩ (F1 u1)):=by simp only[zc,ka,kb,zb,kfa,kga];simp[hK,go_sem,zf,zh,yk]
   clear hK hkept
   go_wp2_with fail
   exact⟨⟨2,a0,a1,l1,u1,c0,c1,rfl,.inr (.inr (.inl ⟨rfl,e0,by rw[hr1,e1];rfl,e2⟩)),hset,W4b⟩,by simp[intOf]⟩
  ·go_upto_region 12 with fail
   have hbA:Below wr.heap.size wr (wr.alloc (.cells #[F1 r0] 25)):=zt ..
   have hkept:=ze (keep hkept hbA) (show zc [(⟨wr.heap.size,0,none⟩,F1 r0)] [] (wr.alloc (.cells #[F1 r0] 25)) by simp only[zc,ka,kb,zb,kfa,kga];simp)
   have W2b:=za Wb hbA
   clear hK hbA
   generalize wr.alloc (.cells #[F1 r0] 25)=W2 at *
   have hK:=hkept;simp only[zc,ka,kb,zb,kfa,kga]at hK
   go_upto_region 13 with (go_at_call 209;refine (zbr (fun x=>B .quo x (cn .f32 r0)) ⟨_,0,none⟩ _ _ _ (fun x w' hb=>zeq x r0 _ 0 w' (by have HK2:=keep hkept hb;simp only[zc,ka,kb,zb,kfa,kga]at HK2;simp[HK2]))).mono ?_;rintro _ w8⟨l1,u1,rfl,hr1,hb1⟩;have W3b:=za W2b hb1;have hkept:=zn hkept hb1 rfl;replace hK:=hkept;simp only[zc,ka,kb,zb,kfa,kga]at hK)
   have W4b:=(W3b.setCell (p:=⟨w.heap.size,4,none⟩) (Nat.le_refl _) (F1 l1)).setCell (p:=⟨w.heap.size,5,none⟩) (Nat.le_refl _) (F1 u1)
   have hset:zc [(⟨w.heap.size,0,none⟩,F1 a0),(⟨w.heap.size,1,none⟩,F1 a1),(⟨w.heap.size,2,none⟩,F1 b0),(⟨w.heap.size,3,none⟩,F1 b1),(⟨w.heap.size,4,none⟩,F1 l1),(⟨w.heap.size,5,none⟩,F1 u1),(⟨w.heap.size+1,0,none⟩,F1 0),(⟨w.heap.size+1,1,none⟩,F1 0),(⟨w.heap.size+1,2,none⟩,F1 0),(⟨w.heap.size+1,3,none⟩,F1 0),(⟨w.heap.size+1,4,none⟩,F1 0),(⟨w.heap.size+1,5,none⟩,F1 0)] [⟨w.heap.size,0,none⟩,⟨w.heap.size,1,none⟩,⟨w.heap.size,2,none⟩,⟨w.heap.size,3,none⟩,⟨w.heap.size,4,none⟩,⟨w.heap.size,5,none⟩,⟨w.heap.size+1,0,none⟩,⟨w.heap.size+1,1,none⟩,⟨w.heap.size+1,2,none⟩,⟨w.heap.size+1,3,none⟩,⟨w.heap.size+1,4,none⟩,⟨w.heap.size+1,5,none⟩] ((w8.setCell ⟨w.heap.size,4,none⟩ (F1 l1)).setCell ⟨w.heap.size,5,none⟩ (F1 u1)):=by simp only[zc,ka,kb,zb,kfa,kga];simp[hK,go_sem,zf,zh,yk]
   clear hK hkept
   go_wp2_with fail
   exact⟨⟨3,a0,a1,b0,b1,l1,u1,rfl,.inr (.inr (.inr ⟨rfl,e0,e1,by rw[hr1,e2];rfl⟩)),hset,W4b⟩,by simp[intOf]⟩
  ·go_wp2_with fail
   exact bodyPost_ret (v:=Rg3 a0 a1 b0 b1 c0 c1) (by simp[results,Tryz.results134,go_sem,hK,zf,zh];first|done|exact⟨rfl,rfl,rfl,rfl,rfl,rfl⟩) rfl ⟨_,_,_,_,_,_,rfl,e0,e1,e2,xr Wb (by omega) ..⟩

set_option maxRecDepth 100000 in
theorem zom {b o bv ov cap r0 r1 r2 x0 x1 y0 y1 z0 z1:Nat} {bp:Option Addr} {w:World} (hN:zc [(⟨b,o,none⟩,.int .i64 11),(⟨b,o+2,none⟩,.int .i64 0),(⟨b,o+3,none⟩,.slice (some ⟨bv,ov,none⟩) 3 cap),(⟨bv,ov,none⟩,F1 r0),(⟨bv,ov+1,none⟩,F1 r1),(⟨bv,ov+2,none⟩,F1 r2)] [] w) :
  Calls Tryz.prog 134 #[.pointer (some ⟨b,o,none⟩),Rg3 x0 x1 y0 y1 z0 z1] w (vn (uq (cn .f32 r0) (cn .f32 x0,cn .f32 x1),uq (cn .f32 r1) (cn .f32 y0,cn .f32 y1),uq (cn .f32 r2) (cn .f32 z0,cn .f32 z1)) w):=by
 have hK:=hN
 simp only[zc,ka,kb,zb,kfa,kga]at hK
 have hb:b<w.heap.size:=zg (a:=⟨b,o,none⟩) (by rw[hK.1];rfl)
 go_enter Tryz.func134,Tryz.ntmps134
 go_upto_region 1 with fail
 clear hK
 generalize hW:(w.alloc (.cells #[F1 x0,F1 x1,F1 y0,F1 y1,F1 z0,F1 z1] 197)).alloc (.cells #[F1 0,F1 0,F1 0,F1 0,F1 0,F1 0] 197)=W1 at *
 have W1b:Below w.heap.size w W1:=by subst hW;exact xa ..
 have hkept:=yt true true hW;simp only[zr,zq,zo,zv,Nat.reduceAdd]at hkept;clear hW
 have hkept:=ze (keep hN W1b) hkept
 have hK:=hkept;simp only[zc,ka,kb,zb,kfa,kga]at hK
 have hb1:b<W1.heap.size:=Nat.lt_of_lt_of_le hb W1b.size
 go_upto_region 2 with fail
 refine Qr.wp_below_all (by kernel_rfl) (by kernel_rfl) PhiPl2 ?_
 repeat (first|(refine Qr.walk_plain rfl fun K hK=>?_;refine zk _ _ _ _ _ rfl _ _ _ rfl rfl rfl (fun r hr=>?_);go_simp;refine hK _ ?_;clear hK K)|(refine Qr.walk_plain rfl fun K hK=>?_;apply Qr.one_det;(focus (intro w' hw';have HK:=keep hkept hw';simp only[zc,ka,kb,zb,kfa,kga]at HK;go_simp;first|done|rfl));go_simp;refine hK _ ?_;clear hK K))
 refine Qr.walk_nil fun w6 hw6=>?_
 have hkept:=keep hkept hw6
 have W6b:=za W1b hw6
 clear hK
 have hK:=hkept
 simp only[zc,ka,kb,zb,kfa,kga]at hK
 go_wp2_with fail
 have hc6:zc [(⟨w.heap.size,0,none⟩,F1 x0),(⟨w.heap.size,1,none⟩,F1 x1),(⟨w.heap.size,2,none⟩,F1 y0),(⟨w.heap.size,3,none⟩,F1 y1),(⟨w.heap.size,4,none⟩,F1 z0),(⟨w.heap.size,5,none⟩,F1 z1),(⟨w.heap.size+1,0,none⟩,F1 0),(⟨w.heap.size+1,1,none⟩,F1 0),(⟨w.heap.size+1,2,none⟩,F1 0),(⟨w.heap.size+1,3,none⟩,F1 0),(⟨w.heap.size+1,4,none⟩,F1 0),(⟨w.heap.size+1,5,none⟩,F1 0)] [⟨w.heap.size,0,none⟩,⟨w.heap.size,1,none⟩,⟨w.heap.size,2,none⟩,⟨w.heap.size,3,none⟩,⟨w.heap.size,4,none⟩,⟨w.heap.size,5,none⟩,⟨w.heap.size+1,0,none⟩,⟨w.heap.size+1,1,none⟩,⟨w.heap.size+1,2,none⟩,⟨w.heap.size+1,3,none⟩,⟨w.heap.size+1,4,none⟩,⟨w.heap.size+1,5,none⟩] w6:=by simp only[zc,ka,kb,zb,kfa,kga];simp[hK]
 have hall:∃ (m a0 a1 b0 b1 c0 c1:Nat),Value.int IntKind.i64 0=.int .i64 (m:Int)∧((m=0∧(cn .f32 a0,cn .f32 a1)=(cn .f32 x0,cn .f32 x1)∧(cn .f32 b0,cn .f32 b1)=(cn .f32 y0,cn .f32 y1)∧(cn .f32 c0,cn .f32 c1)=(cn .f32 z0,cn .f32 z1))∨(m=1∧(cn .f32 a0,cn .f32 a1)=uq (cn .f32 r0) (cn .f32 x0,cn .f32 x1)∧(cn .f32 b0,cn .f32 b1)=(cn .f32 y0,cn .f32 y1)∧(cn .f32 c0,cn .f32 c1)=(cn .f32 z0,cn .f32 z1))∨(m=2∧(cn .f32 a0,cn .f32 a1)=uq (cn .f32 r0) (cn .f32 x0,cn .f32 x1)∧(cn .f32 b0,cn .f32 b1)=uq (cn .f32 r1) (cn .f32 y0,cn .f32 y1)∧(cn .f32 c0,cn .f32 c1)=(cn .f32 z0,cn .f32 z1))∨(m=3∧(cn .f32 a0,cn .f32 a1)=uq (cn .f32 r0) (cn .f32 x0,cn .f32 x1)∧(cn .f32 b0,cn .f32 b1)=uq (cn .f32 r1) (cn .f32 y0,cn .f32 y1)∧(cn .f32 c0,cn .f32 c1)=uq (cn .f32 r2) (cn .f32 z0,cn .f32 z1)))∧zc [(⟨w.heap.size,0,none⟩,F1 a0),(⟨w.heap.size,1,none⟩,F1 a1),(⟨w.heap.size,2,none⟩,F1 b0),(⟨w.heap.size,3,none⟩,F1 b1),(⟨w.heap.size,4,none⟩,F1 c0),(⟨w.heap.size,5,none⟩,F1 c1),(⟨w.heap.size+1,0,none⟩,F1 0),(⟨w.heap.size+1,1,none⟩,F1 0),(⟨w.heap.size+1,2,none⟩,F1 0),(⟨w.heap.size+1,3,none⟩,F1 0),(⟨w.heap.size+1,4,none⟩,F1 0),(⟨w.heap.size+1,5,none⟩,F1 0)] [⟨w.heap.size,0,none⟩,⟨w.heap.size,1,none⟩,⟨w.heap.size,2,none⟩,⟨w.heap.size,3,none⟩,⟨w.heap.size,4,none⟩,⟨w.heap.size,5,none⟩,⟨w.heap.size+1,0,none⟩,⟨w.heap.size+1,1,none⟩,⟨w.heap.size+1,2,none⟩,⟨w.heap.size+1,3,none⟩,⟨w.heap.size+1,4,none⟩,⟨w.heap.size+1,5,none⟩] w6∧Below w.heap.size w w6:=⟨0,x0,x1,y0,y1,z0,z1,rfl,.inl ⟨rfl,rfl,rfl,rfl⟩,hc6,W6b⟩
 clear hK hkept hw6 hb1 hc6
 go_loopw [56] (fun i wr=>∃ (m a0 a1 b0 b1 c0 c1:Nat),i=.int .i64 (m:Int)∧((m=0∧(cn .f32 a0,cn .f32 a1)=(cn .f32 x0,cn .f32 x1)∧(cn .f32 b0,cn .f32 b1)=(cn .f32 y0,cn .f32 y1)∧(cn .f32 c0,cn .f32 c1)=(cn .f32 z0,cn .f32 z1))∨(m=1∧(cn .f32 a0,cn .f32 a1)=uq (cn .f32 r0) (cn .f32 x0,cn .f32 x1)∧(cn .f32 b0,cn .f32 b1)=(cn .f32 y0,cn .f32 y1)∧(cn .f32 c0,cn .f32 c1)=(cn .f32 z0,cn .f32 z1))∨(m=2∧(cn .f32 a0,cn .f32 a1)=uq (cn .f32 r0) (cn .f32 x0,cn .f32 x1)∧(cn .f32 b0,cn .f32 b1)=uq (cn .f32 r1) (cn .f32 y0,cn .f32 y1)∧(cn .f32 c0,cn .f32 c1)=(cn .f32 z0,cn .f32 z1))∨(m=3∧(cn .f32 a0,cn .f32 a1)=uq (cn .f32 r0) (cn .f32 x0,cn .f32 x1)∧(cn .f32 b0,cn .f32 b1)=uq (cn .f32 r1) (cn .f32 y0,cn .f32 y1)∧(cn .f32 c0,cn .f32 c1)=uq (cn .f32 r2) (cn .f32 z0,cn .f32 z1)))∧zc [(⟨w.heap.size,0,none⟩,F1 a0),(⟨w.heap.size,1,none⟩,F1 a1),(⟨w.heap.size,2,none⟩,F1 b0),(⟨w.heap.size,3,none⟩,F1 b1),(⟨w.heap.size,4,none⟩,F1 c0),(⟨w.heap.size,5,none⟩,F1 c1),(⟨w.heap.size+1,0,none⟩,F1 0),(⟨w.heap.size+1,1,none⟩,F1 0),(⟨w.heap.size+1,2,none⟩,F1 0),(⟨w.heap.size+1,3,none⟩,F1 0),(⟨w.heap.size+1,4,none⟩,F1 0),(⟨w.heap.size+1,5,none⟩,F1 0)] [⟨w.heap.size,0,none⟩,⟨w.heap.size,1,none⟩,⟨w.heap.size,2,none⟩,⟨w.heap.size,3,none⟩,⟨w.heap.size,4,none⟩,⟨w.heap.size,5,none⟩,⟨w.heap.size+1,0,none⟩,⟨w.heap.size+1,1,none⟩,⟨w.heap.size+1,2,none⟩,⟨w.heap.size+1,3,none⟩,⟨w.heap.size+1,4,none⟩,⟨w.heap.size+1,5,none⟩] wr∧Below w.heap.size w wr) (fun i _=>3-(intOf i).toNat)
 case atStart=>exact hall
 case round =>
  clear hall
  obtain⟨m,a0,a1,b0,b1,c0,c1,rfl,hm,hkept,Wb⟩:=hrel
  have hkept:=ze (keep hN Wb) hkept
  have hK:=hkept;simp only[zc,ka,kb,zb,kfa,kga]at hK
  rcases hm with⟨rfl,e0,e1,e2⟩|⟨rfl,e0,e1,e2⟩|⟨rfl,e0,e1,e2⟩|⟨rfl,e0,e1,e2⟩
  ·go_upto_region 12 with fail
   have hbA:Below wr.heap.size wr (wr.alloc (.cells #[F1 r0] 25)):=zt ..
   have hkept:=ze (keep hkept hbA) (show zc [(⟨wr.heap.size,0,none⟩,F1 r0)] [] (wr.alloc (.cells #[F1 r0] 25)) by simp only[zc,ka,kb,zb,kfa,kga];simp)
   have W2b:=za Wb hbA
   clear hK hbA
   generalize wr.alloc (.cells #[F1 r0] 25)=W2 at *
   have hK:=hkept;simp only[zc,ka,kb,zb,kfa,kga]at hK
   go_upto_region 13 with (go_at_call 209;refine (zbr (fun x=>B .quo x (cn .f32 r0)) ⟨_,0,none⟩ _ _ _ (fun x w' hb=>zeq x r0 _ 0 w' (by have HK2:=keep hkept hb;simp only[zc,ka,kb,zb,kfa,kga]at HK2;simp[HK2]))).mono ?_;rintro _ w8⟨l1,u1,rfl,hr1,hb1⟩;have W3b:=za W2b hb1;have hkept:=zn hkept hb1 rfl;replace hK:=hkept;simp only[zc,ka,kb,zb,kfa,kga]at hK)
   have W4b:=(W3b.setCell (p:=⟨w.heap.size,0,none⟩) (Nat.le_refl _) (F1 l1)).setCell (p:=⟨w.heap.size,1,none⟩) (Nat.le_refl _) (F1 u1)
   have hset:zc [(⟨w.heap.size,0,none⟩,F1 l1),(⟨w.heap.size,1,none⟩,F1 u1),(⟨w.heap.size,2,none⟩,F1 b0),(⟨w.heap.size,3,none⟩,F1 b1),(⟨w.heap.size,4,none⟩,F1 c0),(⟨w.heap.size,5,none⟩,F1 c1),(⟨w.heap.size+1,0,none⟩,F1 0),(⟨w.heap.size+1,1,none⟩,F1 0),(⟨w.heap.size+1,2,none⟩,F1 0),(⟨w.heap.size+1,3,none⟩,F1 0),(⟨w.heap.size+1,4,none⟩,F1 0),(⟨w.heap.size+1,5,none⟩,F1 0)] [⟨w.heap.size,0,none⟩,⟨w.heap.size,1,none⟩,⟨w.heap.size,2,none⟩,⟨w.heap.size,3,none⟩,⟨w.heap.size,4,none⟩,⟨w.heap.size,5,none⟩,⟨w.heap.size+1,0,none⟩,⟨w.heap.size+1,1,none⟩,⟨w.heap.size+1,2,none⟩,⟨w.heap.size+1,3,none⟩,⟨w.heap.size+1,4,none⟩,⟨w.heap.size+1,5,none⟩] ((w8.setCell ⟨w.heap.size,0,none⟩ (F1 l1)).setCell ⟨w.heap.size,1,none⟩ (F1 u1)):=by simp only[zc,ka,kb,zb,kfa,kga];simp[hK,go_sem,zf,zh,yk]
   clear hK hkept
   go_wp2_with fail
   exact⟨⟨1,l1,u1,b0,b1,c0,c1,rfl,.inr (.inl ⟨rfl,by rw[hr1,e0];rfl,e1,e2⟩),hset,W4b⟩,by simp[intOf]⟩
  ·go_upto_region 12 with fail
   have hbA:Below wr.heap.size wr (wr.alloc (.cells #[F1 r1] 25)):=zt ..
   have hkept:=ze (keep hkept hbA) (show zc [(⟨wr.heap.size,0,none⟩,F1 r1)] [] (wr.alloc (.cells #[F1 r1] 25)) by simp only[zc,ka,kb,zb,kfa,kga];simp)
   have W2b:=za Wb hbA
   clear hK hbA
   generalize wr.alloc (.cells #[F1 r1] 25)=W2 at *
   have hK:=hkept;simp only[zc,ka,kb,zb,kfa,kga]at hK
   go_upto_region 13 with (go_at_call 209;refine (zbr (fun x=>B .quo x (cn .f32 r1)) ⟨_,0,none⟩ _ _ _ (fun x w' hb=>zeq x r1 _ 0 w' (by have HK2:=keep hkept hb;simp only[zc,ka,kb,zb,kfa,kga]at HK2;simp[HK2]))).mono ?_;rintro _ w8⟨l1,u1,rfl,hr1,hb1⟩;have W3b:=za W2b hb1;have hkept:=zn hkept hb1 rfl;replace hK:=hkept;simp only[zc,ka,kb,zb,kfa,kga]at hK)
   have W4b:=(W3b.setCell (p:=⟨w.heap.size,2,none⟩) (Nat.le_refl _) (F1 l1)).setCell (p:=⟨w.heap.size,3,none⟩) (Nat.le_refl _) (F1 u1)
   have hset:zc [(⟨w.heap.size,0,none⟩,F1 a0),(⟨w.heap.size,1,none⟩,F1 a1),(⟨w.heap.size,2,none⟩,F1 l1),(⟨w.heap.size,3,none⟩,F1 u1),(⟨w.heap.size,4,none⟩,F1 c0),(⟨w.heap.size,5,none⟩,F1 c1),(⟨w.heap.size+1,0,none⟩,F1 0),(⟨w.heap.size+1,1,none⟩,F1 0),(⟨w.heap.size+1,2,none⟩,F1 0),(⟨w.heap.size+1,3,none⟩,F1 0),(⟨w.heap.size+1,4,none⟩,F1 0),(⟨w.heap.size+1,5,none⟩,F1 0)] [⟨w.heap.size,0,none⟩,⟨w.heap.size,1,none⟩,⟨w.heap.size,2,none⟩,⟨w.heap.size,3,none⟩,⟨w.heap.size,4,none⟩,⟨w.heap.size,5,none⟩,⟨w.heap.size+1,0,none⟩,⟨w.heap.size+1,1,none⟩,⟨w.heap.size+1,2,none⟩,⟨w.heap.size+1,3,none⟩,⟨w.heap.size+1,4,none⟩,⟨w.heap.size+1,5,none⟩] ((w8.setCell ⟨w.heap.size,2,none⟩ (F1 l1)).setCell ⟨w.heap.size,3,none⟩ (F1 u1)):=by simp only[zc,ka,kb,zb,kfa,kga];simp[hK,go_sem,zf,zh,yk]
   clear hK hkept
   go_wp2_with fail
   exact⟨⟨2,a0,a1,l1,u1,c0,c1,rfl,.inr (.inr (.inl ⟨rfl,e0,by rw[hr1,e1];rfl,e2⟩)),hset,W4b⟩,by simp[intOf]⟩
  ·go_upto_region 12 with fail
   have hbA:Below wr.heap.size wr (wr.alloc (.cells #[F1 r2] 25)):=zt ..
   have hkept:=ze (keep hkept hbA) (show zc [(⟨wr.heap.size,0,none⟩,F1 r2)] [] (wr.alloc (.cells #[F1 r2] 25)) by simp only[zc,ka,kb,zb,kfa,kga];simp)
   have W2b:=za Wb hbA
   clear hK hbA
   generalize wr.alloc (.cells #[F1 r2] 25)=W2 at *
   have hK:=hkept;simp only[zc,ka,kb,zb,kfa,kga]at hK
   go_upto_region 13 with (go_at_call 209;refine (zbr (fun x=>B .quo x (cn .f32 r2)) ⟨_,0,none⟩ _ _ _ (fun x w' hb=>zeq x r2 _ 0 w' (by have HK2:=keep hkept hb;simp only[zc,ka,kb,zb,kfa,kga]at HK2;simp[HK2]))).mono ?_;rintro _ w8⟨l1,u1,rfl,hr1,hb1⟩;have W3b:=za W2b hb1;have hkept:=zn hkept hb1 rfl;replace hK:=hkept;simp only[zc,ka,kb,zb,kfa,kga]at hK)
   have W4b:=(W3b.setCell (p:=⟨w.heap.size,4,none⟩) (Nat.le_refl _) (F1 l1)).setCell (p:=⟨w.heap.size,5,none⟩) (Nat.le_refl _) (F1 u1)
   have hset:zc [(⟨w.heap.size,0,none⟩,F1 a0),(⟨w.heap.size,1,none⟩,F1 a1),(⟨w.heap.size,2,none⟩,F1 b0),(⟨w.heap.size,3,none⟩,F1 b1),(⟨w.heap.size,4,none⟩,F1 l1),(⟨w.heap.size,5,none⟩,F1 u1),(⟨w.heap.size+1,0,none⟩,F1 0),(⟨w.heap.size+1,1,none⟩,F1 0),(⟨w.heap.size+1,2,none⟩,F1 0),(⟨w.heap.size+1,3,none⟩,F1 0),(⟨w.heap.size+1,4,none⟩,F1 0),(⟨w.heap.size+1,5,none⟩,F1 0)] [⟨w.heap.size,0,none⟩,⟨w.heap.size,1,none⟩,⟨w.heap.size,2,none⟩,⟨w.heap.size,3,none⟩,⟨w.heap.size,4,none⟩,⟨w.heap.size,5,none⟩,⟨w.heap.size+1,0,none⟩,⟨w.heap.size+1,1,none⟩,⟨w.heap.size+1,2,none⟩,⟨w.heap.size+1,3,none⟩,⟨w.heap.size+1,4,none⟩,⟨w.heap.size+1,5,none⟩] ((w8.setCell ⟨w.heap.size,4,none⟩ (F1 l1)).setCell ⟨w.heap.size,5,none⟩ (F1 u1)):=by simp only[zc,ka,kb,zb,kfa,kga];simp[hK,go_sem,zf,zh,yk]
   clear hK hkept
   go_wp2_with fail
   exact⟨⟨3,a0,a1,b0,b1,l1,u1,rfl,.inr (.inr (.inr ⟨rfl,e0,e1,by rw[hr1,e2];rfl⟩)),hset,W4b⟩,by simp[intOf]⟩
  ·go_wp2_with fail
   exact bodyPost_ret (v:=Rg3 a0 a1 b0 b1 c0 c1) (by simp[results,Tryz.results134,go_sem,hK,zf,zh];first|done|exact⟨rfl,rfl,rfl,rfl,rfl,rfl⟩) rfl ⟨_,_,_,_,_,_,rfl,e0,e1,e2,xr Wb (by omega) ..⟩

end Go.Proofs.YtbiacfkiakddiaaGreat

namespace Go.Proofs.YtbiacfkiakddiaaGreat
open Go.RowKit Go.Fl Ieee
def zag (r:Nat × Nat):Prop:=leW r.1 r.2
def zcj (p:Pl):Prop:=zag p.1∧zag p.2.1∧zag p.2.2

theorem zqh {a b:Nat} (h:leW a b):leW (un .f32 b) (un .f32 a):=by
 unfold un leW
 rw[um]
 show Ft.leD (FloatKind.f32.decode (Op.negFloat .f32 b)) (FloatKind.f32.decode (Op.negFloat .f32 a))
 rw[vu,vu]
 exact zqj (x8 a) (x8 b) h
theorem zfg {a b:Nat}:leW a b↔gtk .f32 a b=false:=by
 unfold leW gtk
 rw[beq_eq_false_iff_ne]
theorem zyg (a b:Nat):ltk .f32 a b=gtk .f32 b a:=zn9 _ _
theorem zq3 {a b:Nat}:leW a b↔ltk .f32 b a=false:=by rw[zfg,← zyg]
theorem zwl {a b:Nat} (h:ltk .f32 a b=true):leW a b:=by
 intro h2
 unfold ltk at h
 rw[h2]at h
 cases h
theorem zw5:Zw .f32 (un .f32 0) 0:=.inr ⟨true,false,-149,by decide +kernel,by decide +kernel⟩
theorem zd3 {a:Nat} (h:gtk .f32 a 0=false):leW 0 (un .f32 a):=by
 have h2:=zqh (zfg.2 h)
 unfold leW at *
 rw[← Zw.order zw5 (Zw.refl _ _)]
 exact h2

theorem ziw {r:Nat × Nat} (h:zag r):zag (yz r):=by
 unfold yz
 split
 ·exact h
 ·rename_i h1
  split
  ·exact zqh h
  ·rename_i h2
   show leW 0 (z7 (un .f32 r.1) r.2)
   unfold z7
   split
   ·exact zq3.2 (by simpa using h2)
   ·exact zd3 (by simpa using h1)
theorem zbt (r:Nat × Nat) (v:Nat):zag (xw r v):=by
 unfold xw
 split
 ·exact zau _
 ·show leW (yo _ _) (z7 _ _)
  generalize B .mul r.1 v=a
  generalize B .mul r.2 v=b
  unfold yo z7
  cases h1:ltk .f32 b a<;>cases h2:gtk .f32 b a
  ·exact zau _
  ·exact zq3.2 h1
  ·exact zwl h1
  ·exact zau _
theorem zr2 {r o:Nat × Nat} (h1:zag r) (h2:zag o):zag (zbn r o):=zus h1 h2
theorem zq9 {r o:Nat × Nat} (h1:zag r) (h2:zag o):zag (jm r o):=znl h1 h2
theorem zbi {r:Nat × Nat} (h:zag r) (v:Nat):zag (uf r v):=znl h (zau v)
theorem zbo {r:Nat × Nat} {v:Nat} (hv:zre v) (h:zag r):zag (uq v r):=zt4 hv h

theorem zwh {s:Nat} (hs:zre s):leW 0 (B .mul 1082130432 s):=by
 obtain⟨n,j,hn,h0⟩:=hs
 obtain⟨m,e,hm⟩:∃ m e,FloatKind.f32.decode 1082130432=.number false m e:=⟨8388608,-21,by decide +kernel⟩
 have bm:=xf hm
 have bn:=xf hn
 have e1:B .mul 1082130432 s=single.write (.number false (m*n) (e+j)):=by
  rw[show B .mul 1082130432 s=(((FloatKind.f32.decode 1082130432).product (FloatKind.f32.decode s)).map FloatKind.f32.encode).getD (vd .f32) from rfl,hm,show FloatKind.f32.decode s=_ from hn]
  rfl
 have e2:(0:Nat)=single.write (.number false 0 0):=by decide +kernel
 rw[e1]
 have:=Ft.write_mono (d:=.number false 0 0) (e:=.number false (m*n) (e+j)) (by show (-6000:Int)≤0;omega) (by show (-6000:Int)≤e+j;omega) rfl rfl ((Ft.le_num (by omega) (by omega)).2 (by
  unfold Ft.sval
  simp only[Bool.false_eq_true,if_false]
  rw[Ft.val_zero.2 rfl]
  omega))
 rw[← e2]at this
 exact this
theorem zr0 {r:Nat × Nat} {s:Nat} (hs:zre s) (h:zag r):zag (xl r s):=by
 unfold xl j4
 split
 ·exact ziw (zbi h _)
 ·split
  ·exact zwh hs
  ·show leW 0 kl
   unfold leW
   decide +kernel

def Zs (x y:Nat):Prop:=x=y∨∃ s t,FloatKind.f32.decode x=.number s 0 (-149)∧FloatKind.f32.decode y=.number t 0 (-149)
theorem Zs.refl (x:Nat):Zs x x:=.inl rfl
theorem Zs.zw {x y:Nat} (h:Zs x y):Zw .f32 x y:=by
 rcases h with rfl|⟨s,t,h1,h2⟩
 ·exact Zw.refl _ _
 ·exact .inr ⟨s,t,_,h1,h2⟩
theorem zxb {d d':Option Datum} (h:Zo d d'):Zs ((d.map FloatKind.f32.encode).getD (vd .f32)) ((d'.map FloatKind.f32.encode).getD (vd .f32)):=by
 cases d with
 | none =>
  cases d' with
  | none=>exact .inl rfl
  | some e=>cases h
 | some d =>
  cases d' with
  | none=>cases h
  | some e =>
   have h':Zd d e:=h
   rcases h' with rfl|⟨s,t,p,rfl,rfl⟩
   ·exact .inl rfl
   ·exact .inr ⟨s,t,zc4 .f32 s p,zc4 .f32 t p⟩
theorem Zs.trans {x y z:Nat} (h:Zs x y) (h':Zs y z):Zs x z:=by
 rcases h with rfl|⟨s,t,h1,h2⟩
 ·exact h'
 ·rcases h' with rfl|⟨s',t',h3,h4⟩
  ·exact .inr ⟨s,t,h1,h2⟩
  ·exact .inr ⟨s,t',h1,h4⟩
theorem zjw {x x' y y':Nat} (hx:Zw .f32 x x') (hy:Zw .f32 y y'):Zs (B .sub x y) (B .sub x' y') :=
 Zs.trans (zxb (ztk hx _)) (zxb (zup (Zd.opp hy) _))
theorem zgs {x x' y y':Nat} (hx:Zs x x') (hy:Zs y y'):Zs (z7 x y) (z7 x' y'):=by
 unfold z7
 rw[Zw.gtk hy.zw hx.zw]
 split
 ·exact hy
 ·exact hx
theorem zaf {x:Nat} {s:Bool} (h:FloatKind.f32.decode x=.number s 0 (-149)) (y:Nat):gtk .f32 x y=gtk .f32 0 y∧ltk .f32 x y=ltk .f32 0 y∧gtk .f32 y x=gtk .f32 y 0:=by
 have hz:Zw .f32 x 0:=.inr ⟨s,false,-149,h,by decide +kernel⟩
 exact⟨Zw.gtk hz (Zw.refl _ _),Zw.ltk hz (Zw.refl _ _),Zw.gtk (Zw.refl _ _) hz⟩
theorem zjx {x x':Nat} (h:Zs x x'):z7 0 x=z7 0 x':=by
 rcases h with rfl|⟨s,t,h1,h2⟩
 ·rfl
 ·unfold z7
  rw[(zaf h1 0).1,(zaf h2 0).1]
  have:gtk .f32 0 0=false:=by decide +kernel
  rw[this];rfl
theorem zt7 {x x':Nat} (h:Zs x x'):yo 0 x=yo 0 x':=by
 rcases h with rfl|⟨s,t,h1,h2⟩
 ·rfl
 ·unfold yo
  rw[(zaf h1 0).2.1,(zaf h2 0).2.1]
  have:ltk .f32 0 0=false:=by decide +kernel
  rw[this];rfl
theorem zux:zce=ja:=by
 funext x y z u v t
 have h1:Zs (B .sub (vp x) u) (B .sub (vj x) u):=zjw (qa (Zw.refl _ _)) (Zw.refl _ _)
 have h2:Zs (B .sub (vp y) v) (B .sub (vj y) v):=zjw (qa (Zw.refl _ _)) (Zw.refl _ _)
 have h3:Zs (B .sub (vp z) t) (B .sub (vj z) t):=zjw (qa (Zw.refl _ _)) (Zw.refl _ _)
 unfold zce ja
 rw[zjx h1,zjx h2,zjx h3,zt7 (zgs (zgs h1 h2) h3)]

theorem zyu {x y:Nat} (h:eqk .f32 x y=true):Zw .f32 x y:=by
 unfold eqk at h
 have h':(single.read x).order (single.read y)=some .eq:=beq_iff_eq.1 h
 unfold Zw
 show Zd (single.read x) (single.read y)
 cases hx:single.read x with
 | nan s t=>rw[hx]at h';cases h'
 | infinity s =>
  rw[hx]at h'
  cases hy:single.read y with
  | nan s t=>rw[hy]at h';cases h'
  | infinity t =>
   rw[hy]at h'
   cases s<;>cases t<;>first|exact .inl rfl|exact absurd h' (by decide)
  | number t n j=>rw[hy]at h';cases s<;>cases h'
 | number s m i =>
  rw[hx]at h'
  cases hy:single.read y with
  | nan s t=>rw[hy]at h';cases h'
  | infinity t=>rw[hy]at h';cases t<;>cases h'
  | number t n j =>
   rw[hy]at h'
   have bx:=xf hx
   have by':=xf hy
   rw[Ft.order_val s t m n (by omega) (by omega)]at h'
   injection h' with h'
   have he:=Ft.cmp_eq.1 h'
   by_cases hm:m=0
   ·subst hm
    have hn:n=0:=by
     unfold Ft.sval at he
     rw[Ft.val_zero.2 rfl]at he
     apply (Ft.val_zero (e:=j)).1
     cases s<;>cases t<;>simp at he<;>omega
    subst hn
    have p1:=zdv (x:=x) hx
    have p2:=zdv (x:=y) hy
    subst p1 p2
    exact .inr ⟨s,t,_,rfl,rfl⟩
   ·have hv:0<Ft.val m i:=Nat.pos_of_ne_zero fun h0=>hm (Ft.val_zero.1 h0)
    have hst:s=t∧Ft.val m i=Ft.val n j:=by
     unfold Ft.sval at he
     cases s<;>cases t<;>simp at he<;>first|exact⟨rfl,by omega⟩|(exfalso;omega)
    obtain⟨rfl,hvv⟩:=hst
    obtain⟨r,_,_,hr,_⟩:=rtS (x:=x) hx
    obtain⟨r',_,_,hr',_⟩:=rtS (x:=y) hy
    have:=Ft.nearest_val single s hm (by omega) (by omega) hvv
    rw[(hr s).1,(hr' s).1]at this
    left
    rw[← (hr s).2,← (hr' s).2,this]

theorem zta {u p q:Nat} (h:Zs p q) (hu:leW u q):yz (u,p)=yz (u,q):=by
 rcases h with rfl|⟨s,t,h1,h2⟩
 ·rfl
 ·have hg:gtk .f32 u 0=false:=by rw[← (zaf h2 u).2.2];exact zfg.1 hu
  have l0:ltk .f32 0 0=false:=by decide +kernel
  have hn:gtk .f32 0 (un .f32 u)=false:=zfg.1 (zd3 hg)
  unfold yz z7
  simp only[hg,(zaf h1 0).2.1,(zaf h2 0).2.1,l0,(zaf h1 (un .f32 u)).1,(zaf h2 (un .f32 u)).1,hn,Bool.false_eq_true,if_false]

theorem zs8 {r:Nat × Nat} (s:Nat) (h:zag r):vl r s=xl r s:=by
 unfold vl xl j4
 by_cases he:eqk .f32 (j2 (B .quo r.1 (B .mul 1073741824 s))) (j2 (B .quo r.2 (B .mul 1073741824 s)))=true
 ·rw[if_pos he,if_pos he]
  have hz:Zw .f32 (k5 r.2 s) (k5 r.1 s):=by
   have h0:=zyu he
   have h0':Zw .f32 (j2 (B .quo r.2 (B .mul 1073741824 s))) (j2 (B .quo r.1 (B .mul 1073741824 s))):=Zd.symm h0
   exact Zw.mul (Zw.refl _ _) h0'
  exact zta (zjw (Zw.refl _ _) hz) (zbi h _)
 ·rw[if_neg he,if_neg he]

def zgc (n:PN):Prop:=(n.kind=10∨n.kind=11∨n.kind=14)→∀ v∈n.nums.map (cn .f32),zre v

theorem zrd {b:Int} {f g:Nat × Nat→Nat × Nat} {p:Pl} (hp:zcj p) (h:∀ r,zag r→f r=g r):znv b f p=znv b g p:=by
 unfold znv
 rw[h _ hp.1,h _ hp.2.1,h _ hp.2.2]
theorem zmx {b:Int} {f:Nat × Nat→Nat × Nat} {p:Pl} (hp:zcj p) (h:∀ r,zag r→zag (f r)):zcj (znv b f p):=by
 unfold znv
 split
 ·exact⟨h _ hp.1,hp.2.1,hp.2.2⟩
 ·split
  ·exact⟨hp.1,h _ hp.2.1,hp.2.2⟩
  ·exact⟨hp.1,hp.2.1,h _ hp.2.2⟩
theorem zki (t:Nat) (i j:Nat × Nat):zag (zb3 t i j):=zr2 (zbt _ _) (zbt _ _)
theorem zi3 (t:Nat) (i j:Nat × Nat):zag (zdd t i j):=zq9 (zbt _ _) (zbt _ _)
theorem zu5 (b:Int) (t:Nat) {p:Pl} (hp:zcj p):zcj (ztx b t p):=by
 unfold ztx
 split
 ·exact⟨hp.1,zki _ _ _,zi3 _ _ _⟩
 ·split
  ·exact⟨zi3 _ _ _,hp.2.1,zki _ _ _⟩
  ·exact⟨zki _ _ _,zi3 _ _ _,hp.2.2⟩

theorem zpi {n:PN} {p:Pl} (hp:zcj p):k0 vl n p=k0 xl n p:=by
 unfold k0
 split<;>first|rfl|exact zrd hp (fun r hr=>zs8 _ hr)
theorem zsi {n:PN} (hn:zgc n) {p:Pl} (hp:zcj p):zcj (k0 xl n p):=by
 unfold k0
 split
 ·exact⟨zbi hp.1 _,zbi hp.2.1 _,zbi hp.2.2 _⟩
 ·rename_i a hk hnums
  have hv:=hn (.inl hk) a (by rw[hnums];simp)
  exact⟨zbo hv hp.1,zbo hv hp.2.1,zbo hv hp.2.2⟩
 ·rename_i a b c hk hnums
  have hv:=hn (.inr (.inl hk))
  rw[hnums]at hv
  exact⟨zbo (hv a (by simp)) hp.1,zbo (hv b (by simp)) hp.2.1,zbo (hv c (by simp)) hp.2.2⟩
 ·exact zu5 _ _ hp
 ·exact zmx hp fun r hr=>ziw hr
 ·rename_i s hk hnums
  have hv:=hn (.inr (.inr hk)) s (by rw[hnums];simp)
  exact zmx hp fun r hr=>zr0 hv hr
 ·exact hp

theorem zea {P:Nat→Pl} {c:Nat} {v:Pl} (hP:∀ i,zcj (P i)) (hv:zcj v):∀ i,zcj (vv P c v i):=fun i=>by
 unfold vv
 split
 ·exact hv
 ·exact hP i
theorem zoj {n:PN} {i:Nat} {C:Nat→Pl} (hC:∀ i,zcj (C i)):za2 vl n i C=za2 xl n i C:=by
 unfold za2
 split
 ·rfl
 ·rw[zpi (hC i)]
 ·rfl
theorem zs3 {n:PN} (hn:zgc n) {i:Nat} {C:Nat→Pl} (hC:∀ i,zcj (C i)):∀ j,zcj (za2 xl n i C j):=by
 unfold za2
 generalize (zz n.kind).2.1=c
 rcases c with _|_|c
 ·exact hC
 ·exact zea hC (zsi hn (hC i))
 ·exact zea (zea hC (hC i)) (hC i)
theorem zlv {ns:List PN} (hns:∀ n∈ns,zgc n) {p:Pl} (hp:zcj p):∀ d,qw vl ns p d=qw xl ns p d∧∀ i,zcj (qw xl ns p d i)
 | 0=>⟨rfl,zea (fun _=>⟨zau _,zau _,zau _⟩) hp⟩
 | d+1=>by
  obtain⟨h1,h2⟩:=zlv hns hp d
  unfold qw
  cases hg:ns[ns.length-1-d]? with
  | none=>exact⟨h1,h2⟩
  | some n =>
   have hn:=hns n (List.mem_of_getElem? hg)
   simp only
   rw[h1]
   exact⟨zoj h2,zs3 hn h2⟩
theorem ze2 {ns:List PN} (hns:∀ n∈ns,zgc n) {p:Pl} (hp:zcj p):za3 ns p=j9 ns p:=by
 unfold za3 j9
 rw[(zlv hns hp ns.length).1,zux]

theorem zwy {x:Nat} (h:eqk .f32 (B .sub x x) 0=true) (hp:lek .f32 x 0=false):zre x:=by
 obtain⟨s,m,e,hx⟩:=zft h
 have bx:=xf hx
 have h0:FloatKind.f32.decode 0=.number false 0 (-149):=by decide +kernel
 have ho:FloatKind.f32.format.order x 0=some (compare (Ft.sval s m e) (Ft.sval false 0 (-149))):=by
  show (FloatKind.f32.decode x).order (FloatKind.f32.decode 0)=_
  rw[hx,h0,Ft.order_val _ _ _ _ (by omega) (by omega)]
 unfold lek at hp
 rw[ho]at hp
 have hgt:compare (Ft.sval s m e) (Ft.sval false 0 (-149))=.gt:=by
  cases hc:compare (Ft.sval s m e) (Ft.sval false 0 (-149))<;>rw[hc]at hp<;>first|rfl|(exfalso;revert hp;decide)
 have:=Ft.cmp_gt.1 hgt
 unfold Ft.sval at this
 rw[Ft.val_zero.2 (rfl:(0:Nat)=0)]at this
 cases s
 ·refine⟨m,e,hx,fun hm=>?_⟩
  subst hm
  rw[Ft.val_zero.2 rfl]at this
  simp at this
 ·simp at this
  omega
theorem zif {ns:List PN} (h:xd ns=true):∀ n∈ns,zgc n:=by
 simp only[xd,Bool.and_eq_true,decide_eq_true_eq]at h
 obtain⟨hl,hr⟩:=h
 cases hc:kqa ns 0 (List.replicate ns.length 0) with
 | none=>rw[hc]at hr;cases hr
 | some r =>
  intro n hn hk v hv
  obtain⟨i,hi,rfl⟩:=List.getElem_of_mem hn
  have h1:=(za8 ns 0 _ r hc i hi).1
  simp only[j3,zcw,Bool.and_eq_true,Bool.not_eq_true',List.any_eq_false]at h1
  obtain⟨⟨⟨_,h2⟩,h3⟩,_⟩:=h1
  obtain⟨x,hx,rfl⟩:=List.mem_map.1 hv
  have f1:=h2 x hx
  have f2:=h3 x hx
  have hs:(zz ns[i].kind).2.2.2=2:=by rcases hk with h|h|h<;>rw[h]<;>rfl
  rw[hs]at f2
  unfold qn at f1
  unfold qb at f2
  refine zwy (by simpa using f1) ?_
  simpa using f2
end Go.Proofs.YtbiacfkiakddiaaGreat

namespace Go.Proofs.YtbiacfkiakddiaaGreat
open Go.RowKit Go.Fl
theorem zys (p q r s t u:Bool):p=false∨(p=true∧q=false)∨(p=true∧q=true∧r=false)∨(p=true∧q=true∧r=true∧s=false)∨(p=true∧q=true∧r=true∧s=true∧t=false)∨(p=true∧q=true∧r=true∧s=true∧t=true∧u=false)∨(p=true∧q=true∧r=true∧s=true∧t=true∧u=true):=by
 cases p<;>cases q<;>cases r<;>cases s<;>cases t<;>cases u<;>simp

set_option maxRecDepth 100000 in
theorem zb1 {g p x0 x1 y0 y1 z0 z1:Nat} {w:World} (hs:zfl g p x0 x1 y0 y1 z0 z1 w) :
  Calls Tryz.prog 125 #[.pointer (some ⟨g,p,none⟩)] w (fun e w'=>e=.returned (.bool (zqy (cn6 ((x0,x1),(y0,y1),(z0,z1)))))∧Below w.heap.size w w'):=by
 have hN:zc [(⟨g,p,none⟩,F1 x0),(⟨g,p+1,none⟩,F1 x1),(⟨g,p+2,none⟩,F1 y0),(⟨g,p+3,none⟩,F1 y1),(⟨g,p+4,none⟩,F1 z0),(⟨g,p+5,none⟩,F1 z1)] [] w:=⟨hs,fun a ha=>by cases ha⟩
 obtain⟨U,hU⟩:∃ U,Hid (zqy (cn6 ((x0,x1),(y0,y1),(z0,z1)))=U):=⟨_,rfl⟩
 rw[hU.out]
 have hUo:(qn x0 && qn x1 && (qn y0 && qn y1) && (qn z0 && qn z1))=U:=hU.out
 clear hU hs
 rcases zys (qn x0) (qn x1) (qn y0) (qn y1) (qn z0) (qn z1) with h0|⟨h0,h1⟩|⟨h0,h1,h2⟩|⟨h0,h1,h2,h3⟩|⟨h0,h1,h2,h3,h4⟩|⟨h0,h1,h2,h3,h4,h5⟩|⟨h0,h1,h2,h3,h4,h5⟩
 all_goals
  simp only[*,Bool.and_true,Bool.and_false,Bool.false_and,Bool.true_and]at hUo
  subst hUo
  go_enter Tryz.func125,Tryz.ntmps125
  have W1b:=zi w.heap.size w
  have hkept:=hN
  have hK:=hkept;simp only[zc,ka,kb,zb,kfa,kga]at hK
  go_wp2_with (go_at_call 149;refine (zds _ _).mono ?_;rintro _ w2⟨rfl,hb1⟩;have W1b:=za W1b hb1;have hkept:=zn hkept hb1 rfl;replace hK:=hkept;simp only[zc,ka,kb,zb,kfa,kga]at hK;simp only[*])
  go_ret
  exact⟨rfl,W1b⟩

theorem zpb:(Tryz.prog.info? 118).map (fun i=>(i.zero,i.size,i.bytes))=some (some (.agg #[F1 0,F1 0]),2,8):=by kernel_rfl

def fr (rs:List (Nat × Nat)):List Value:=rs.flatMap fun r=>[F1 r.1,F1 r.2]
theorem zx3 (rs:List (Nat × Nat)) (r:Nat × Nat):fr (rs++[r])=fr rs++[F1 r.1,F1 r.2]:=by simp[fr]
theorem zot (rs:List (Nat × Nat)):(fr rs).length=rs.length*2:=by
 induction rs with
 | nil=>rfl
 | cons r rs ih =>
  have:fr (r::rs)=F1 r.1::F1 r.2::fr rs:=rfl
  rw[this]
  simp only[List.length_cons,ih]
  omega
theorem zg1:∀ (rs:List (Nat × Nat)) (i:Nat) (h:i<rs.length),(fr rs)[i*2]? = some (F1 rs[i].1)∧(fr rs)[i*2+1]? = some (F1 rs[i].2)
 | r::rs,0,_=>⟨rfl,rfl⟩
 | r::rs,i+1,h=>by
  have e:fr (r::rs)=F1 r.1::F1 r.2::fr rs:=rfl
  have:=zg1 rs i (by simpa using h)
  rw[e,show (i+1)*2=i*2+1+1 by omega]
  simpa using this

theorem ku {ops:Array Oper} {rest:List Oper} {o:Oper} {a:Act} {Q:Exit→Act→World→Prop} {W:World} (base:Nat) (hgd:o.guard=none) (s x:Operand)
  (ho:o.op=.call { callee:=.builtin .append,args:=#[s,x],argTypes:=#[31,31] })
  (v:Value) (m:Nat) (rs:List (Nat × Nat)) (hs:a.eval s=v) (hown:W.ownsRow base 118 2 v m (fr rs)) (gn l u:Nat) (hx:a.eval x=.slice (some ⟨gn,0,none⟩) 1 1) (hcell:W.cell? ⟨gn,0,none⟩=some (F1 l)) (hcell2:W.cell? ⟨gn,1,none⟩=some (F1 u))
  (hm:m≤1000) (hbase:base≤W.heap.size)
  (h:∀ v' w',w'.ownsRow base 118 2 v' (m+1) (fr (rs++[(l,u)]))→W.grownBy w' v.ownBlock→wpList Tryz.prog ops Q rest (a.put o.dst v') w'):wpList Tryz.prog ops Q (o::rest) a W:=by
 obtain⟨i0,hi,hz0,hz1,hz2⟩:=info_parts zpb
 refine wpList_append_own _ hgd s x 31 ho base 118 i0 (.agg #[F1 0,F1 0]) 2 8 Tryz.underlying31 hi hz0 hz1 hz2 rfl (by decide) v m (fr rs) hs hown ⟨gn,0,none⟩ 1 1 [F1 l,F1 u] hx rfl ?_ ?_ (by unfold maxLen;omega) (by omega) hbase ?_
 ·intro j u' hu
  cases j with
  | zero=>simp at hu;subst hu;exact hcell
  | succ j =>
   cases j with
   | zero=>simp at hu;subst hu;exact hcell2
   | succ j=>simp at hu
 ·intro u' hu
  simp at hu
  rcases hu with rfl|rfl<;>rfl
 ·intro v' w' h1 h2 _
  refine h v' w' ?_ h2
  rw[zx3]
  exact h1
end Go.Proofs.YtbiacfkiakddiaaGreat
