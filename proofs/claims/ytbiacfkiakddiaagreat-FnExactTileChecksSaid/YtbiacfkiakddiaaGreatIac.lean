/-
 Lemmas: T4,U6.
-/
import Derived.Test.YtbiacfkiakddiaaGreatIab
import Derived.Deep.CutRange
set_option linter.unusedVariables false
set_option linter.unusedSimpArgs false
namespace Go.Proofs.YtbiacfkiakddiaaGreat
open Go.RowKit Go.Fl
/-- The check numbers of tiles. -/
def chkT (SH:Int → Int → Nat) (t:Tl):Int:=chk 0 (picB SH t.1 t.2.1 t.2.2.1.toNat t.2.2.2.toNat)
def chkL (SH:Int → Int → Nat) (ts:List Tl):List Int:=ts.map (chkT SH)
theorem chkL_next (SH:Int → Int → Nat) (ts:List Tl) (m:Nat) (h:m < ts.length):chkL SH (ts.take (m + 1)) = chkL SH (ts.take m) ++ [chkT SH ts[m]]:=by
 unfold chkL
 rw [List.take_succ_eq_append_getElem h,List.map_append]
 rfl
theorem chkL_len (SH:Int → Int → Nat) (ts:List Tl) (m:Nat) (h:m ≤ ts.length):(chkL SH (ts.take m)).length = m:=by
 unfold chkL
 rw [List.length_map,List.length_take,Nat.min_eq_left h]
def szOk (s:Int):Bool:=decide (1 ≤ s) && decide (s ≤ 12)
theorem tile_nat {nx ny:Int} (hx:nx ≤ 12) (hy:ny ≤ 12) {t:Tl} (h:InPic nx ny t):∃ (X Y:Int) (u v:Nat),t = (X,Y,(u:Int),(v:Int)) ∧ (0 ≤ X ∧ X ≤ 12) ∧ (0 ≤ Y ∧ Y ≤ 12) ∧ 1 ≤ u ∧ u ≤ 12 ∧ 1 ≤ v ∧ v ≤ 12:=by
 obtain ⟨X,Y,p,q⟩:=t
 unfold InPic at h
 simp only at h
 exact ⟨X,Y,p.toNat,q.toNat,by rw [Int.toNat_of_nonneg (by omega),Int.toNat_of_nonneg (by omega)],by omega,by omega,by omega,by omega,by omega,by omega⟩


set_option maxRecDepth 100000 in
set_option maxHeartbeats 4000000 in
theorem checks_any (ns:List PN) (hnum:∀ n ∈ ns,n.nums.length < 10000000) (nb no cap a b c d e f wd:Nat) (nx ny:Int) (lx ly lz near most:Nat) (n:Int) (bp:Option Addr) (w:World) (hbp:ns ≠ [] → bp = some ⟨nb,no,none⟩) (hsh:∀ i (h:i < ns.length),NodeIn ns[i] nb (no + i * 4) w) (hlen:ns.length < 10000000) (s:Int) :
  Calls Tryz.prog 57 #[ViewV bp ns.length cap a b c d e f wd nx ny lx ly lz near most n,.int .i64 s] w (RetIl (viewOk (validF ns) (cv a b c) (cv d e f) (cn .f32 wd) nx ny (cv lx ly lz) (cn .f32 near) (cn .f32 most) n && szOk s) (chkL (fun x y => shadeF (topF ns) capF (fun F T mo => marchGo (topF ns) F T (slopeF ns) (cn .f32 near) mo n.toNat 1 0) (cv a b c) (wayP (cv a b c) (cv d e f) (cn .f32 wd) nx ny x y) (cv lx ly lz) (cn .f32 near) (cn .f32 most)) (tilL nx ny s)) w):=by
 obtain ⟨ok,hOk⟩:∃ ok,Hid (ok = (viewOk (validF ns) (cv a b c) (cv d e f) (cn .f32 wd) nx ny (cv lx ly lz) (cn .f32 near) (cn .f32 most) n && szOk s)):=⟨_,rfl⟩
 rw [← hOk.out]
 obtain ⟨L9,hL9⟩:∃ L,Hid (chkL (fun x y => shadeF (topF ns) capF (fun F T mo => marchGo (topF ns) F T (slopeF ns) (cn .f32 near) mo n.toNat 1 0) (cv a b c) (wayP (cv a b c) (cv d e f) (cn .f32 wd) nx ny x y) (cv lx ly lz) (cn .f32 near) (cn .f32 most)) (tilL nx ny s) = L):=⟨_,rfl⟩
 rw [hL9.out]
 have hvv:∀ w',Below w.heap.size w w' → Calls Tryz.prog 103 #[ViewV bp ns.length cap a b c d e f wd nx ny lx ly lz near most n] w' (fun e' w'' => e' = .returned (.bool (viewOk (validF ns) (cv a b c) (cv d e f) (cn .f32 wd) nx ny (cv lx ly lz) (cn .f32 near) (cn .f32 most) n)) ∧ Below w'.heap.size w' w''):=fun w' hb => view_any ns hnum nb no cap a b c d e f wd nx ny lx ly lz near most n bp w' hbp (fun i h => (hsh i h).keep hb) hlen
 have htn:=fun hno w' => tiles_no a b c d e f wd nx ny s w' hno
 go_enter Tryz.func57,Tryz.ntmps57
 go_upto_region 1 with fail
 generalize hW:w.alloc (.cells #[.slice bp ns.length cap,F1 a,F1 b,F1 c,F1 d,F1 e,F1 f,F1 wd,.int .i64 nx,.int .i64 ny,F1 lx,F1 ly,F1 lz,F1 near,F1 most,.int .i64 n] 86) = W1 at *
 have W1b:Below w.heap.size w W1:=by subst hW;exact (by repeat' (first | exact Below.refl _ _ | exact Nat.le_refl _ | refine below_drewN ?_ _ | refine Below.alloc ?_ (by simp <;> omega) _ | refine Below.setCell ?_ (by simp <;> omega) _ | refine below_step ?_ (by assumption)))
 have hkept:Kept [(⟨w.heap.size,0,none⟩,.slice bp ns.length cap),(⟨w.heap.size,1,none⟩,F1 a),(⟨w.heap.size,2,none⟩,F1 b),(⟨w.heap.size,3,none⟩,F1 c),(⟨w.heap.size,4,none⟩,F1 d),(⟨w.heap.size,5,none⟩,F1 e),(⟨w.heap.size,6,none⟩,F1 f),(⟨w.heap.size,7,none⟩,F1 wd),(⟨w.heap.size,8,none⟩,.int .i64 nx),(⟨w.heap.size,9,none⟩,.int .i64 ny),(⟨w.heap.size,10,none⟩,F1 lx),(⟨w.heap.size,11,none⟩,F1 ly),(⟨w.heap.size,12,none⟩,F1 lz),(⟨w.heap.size,13,none⟩,F1 near),(⟨w.heap.size,14,none⟩,F1 most),(⟨w.heap.size,15,none⟩,.int .i64 n)] [] W1:=by
  subst hW;simp only [Kept,ka,kb,kc,kd,ke,kfa,kga];(first | (go_simp;done) | (simp [World.cell?,World.frozen?,World.alloc,Array.getElem?_push];done))
 clear hW
 have hK:=hkept;simp only [Kept,ka,kb,kc,kd,ke,kfa,kga] at hK
 cases hcs:(camOk (cv a b c) (cv d e f) (cn .f32 wd) nx ny && (decide (1 ≤ s) && decide (s ≤ 12)))
 ·have hno:ok = false:=by
   rw [hOk.out]
   cases hval:viewOk (validF ns) (cv a b c) (cv d e f) (cn .f32 wd) nx ny (cv lx ly lz) (cn .f32 near) (cn .f32 most) n
   ·rfl
   ·obtain ⟨-,hcam,-⟩:=view_parts hval
    rw [hcam] at hcs
    simpa [szOk] using hcs
  replace htn:=htn hcs
  clear hOk hsh hbp hnum hvv hcs hL9
  subst hno
  go_wp2_with (go_at_call 115;refine (htn _).mono ?_;rintro _ w4 ⟨rfl,hb1⟩;have W1b:=below_step W1b hb1)
  exact bodyPost_ret (v:=.tuple #[.slice none 0 0,.bool false]) (by simp [results,Tryz.results57,go_sem];first | done | (rfl;done) | (repeat' constructor)) rfl (retIl_no rfl W1b)
 clear htn
 rw [Bool.and_eq_true] at hcs
 obtain ⟨hcam,hs⟩:=hcs
 have hs2:1 ≤ s ∧ s ≤ 12:=by simpa using hs
 have hti:∀ w',Calls Tryz.prog 115 #[CamV a b c d e f wd nx ny,.int .i64 s] w' (fun e' w'' => ∃ v,e' = .returned (.tuple #[v,.bool true]) ∧ w''.ownsRow w'.heap.size 99 4 v (tilL nx ny s).length (ft (tilL nx ny s)) ∧ Below w'.heap.size w' w''):=fun w' => tiles_any a b c d e f wd nx ny s w' hcam hs2
 cases hval:viewOk (validF ns) (cv a b c) (cv d e f) (cn .f32 wd) nx ny (cv lx ly lz) (cn .f32 near) (cn .f32 most) n
 ·have hno:ok = false:=by rw [hOk.out,hval];rfl
  rw [hval] at hvv
  clear hOk hsh hbp hnum hL9
  subst hno
  go_wp2_with (first
   | (go_at_call 115;refine (hti _).mono ?_;rintro _ w4 ⟨v4,rfl,ho4,hb1⟩;have W1b:=below_step W1b hb1;have hkept:=keepT hkept hb1 rfl;clear hK;have hK:=hkept;simp only [Kept,ka,kb,kc,kd,ke,kfa,kga] at hK)
   | (go_at_call 103;refine (hvv _ W1b).mono ?_;rintro _ w5 ⟨rfl,hb1⟩;have W1b:=below_step W1b hb1))
  exact bodyPost_ret (v:=.tuple #[.slice none 0 0,.bool false]) (by simp [results,Tryz.results57,go_sem];first | done | (rfl;done) | (repeat' constructor)) rfl (retIl_no rfl W1b)
 obtain ⟨hvf,-,hmar⟩:=view_parts hval
 rw [hval] at hvv
 have hyes:ok = true:=by rw [hOk.out,hval];exact hs
 subst hyes
 obtain ⟨m,rfl⟩:=Int.eq_ofNat_of_zero_le (show 0 ≤ n by have:=mar_steps hmar;omega)
 have hm64:m ≤ 64:=by have:=mar_steps hmar;omega
 obtain ⟨hl,hokk⟩:=valid_ok hvf
 have hb:=hbp (by intro h;rw [h] at hl;simp at hl)
 subst hb
 obtain ⟨⟨hx1,hx2⟩,hy1,hy2⟩:=cam_sizes hcam
 have hV:∀ w',Below w.heap.size w w' → Kept [(⟨w.heap.size,0,none⟩,.slice (some ⟨nb,no,none⟩) ns.length cap),(⟨w.heap.size,1,none⟩,F1 a),(⟨w.heap.size,2,none⟩,F1 b),(⟨w.heap.size,3,none⟩,F1 c),(⟨w.heap.size,4,none⟩,F1 d),(⟨w.heap.size,5,none⟩,F1 e),(⟨w.heap.size,6,none⟩,F1 f),(⟨w.heap.size,7,none⟩,F1 wd),(⟨w.heap.size,8,none⟩,.int .i64 nx),(⟨w.heap.size,9,none⟩,.int .i64 ny),(⟨w.heap.size,10,none⟩,F1 lx),(⟨w.heap.size,11,none⟩,F1 ly),(⟨w.heap.size,12,none⟩,F1 lz),(⟨w.heap.size,13,none⟩,F1 near),(⟨w.heap.size,14,none⟩,F1 most),(⟨w.heap.size,15,none⟩,.int .i64 (m:Int))] [] w' → ViewIn ns w.heap.size nb no cap a b c d e f wd nx ny lx ly lz near most m w':=fun w' hb hk => ⟨hk,fun i h => (hsh i h).keep hb⟩
 clear hsh hbp hOk hval hs
 have hTin:∀ t ∈ tilL nx ny s,InPic nx ny t:=tilesT_in hs2.1 12 0 (Int.le_refl _)
 have hTl:(tilL nx ny s).length ≤ 144:=tilesT_len nx ny s 12 0
 obtain ⟨SH,hSH⟩:∃ SH,Hid (SH = (fun x y => shadeF (topF ns) capF (fun F T mo => marchGo (topF ns) F T (slopeF ns) (cn .f32 near) mo (m:Int).toNat 1 0) (cv a b c) (wayP (cv a b c) (cv d e f) (cn .f32 wd) nx ny x y) (cv lx ly lz) (cn .f32 near) (cn .f32 most))):=⟨_,rfl⟩
 have hLf:=hL9.out
 rw [← hSH.out] at hLf
 have hren:∀ X Y (u v:Nat) w',(0 ≤ X ∧ X ≤ 12) → (0 ≤ Y ∧ Y ≤ 12) → 1 ≤ u → u ≤ 12 → 1 ≤ v → v ≤ 12 → ViewIn ns w.heap.size nb no cap a b c d e f wd nx ny lx ly lz near most m w' → Calls Tryz.prog 112 #[.pointer (some ⟨w.heap.size,0,none⟩),TilV X Y (u:Int) (v:Int)] w' (fun e w'' => e = .returned (.string ⟨(picB SH X Y u v).toArray⟩) ∧ Below w'.heap.size w' w''):=fun X Y u v w' hX hY hu1 hu hv1 hv hv2 => by
  rw [hSH.out]
  exact render_any w.heap.size _ X Y u v hX hY hu1 hu hv1 hv w' (fun x y w'' hb => shade_any ns hvf hnum w.heap.size nb no cap a b c d e f wd nx ny lx ly lz near most m hm64 hmar x y w'' (hv2.keep hb))
 clear hL9 hSH hnum hvf hmar hcam hokk
 go_upto_region 4 with (first
   | (go_at_call 115;refine (hti _).mono ?_;rintro _ w4 ⟨v4,rfl,ho4,hb1⟩;have W1b:=below_step W1b hb1;have hkept:=keepT hkept hb1 rfl;clear hK;have hK:=hkept;simp only [Kept,ka,kb,kc,kd,ke,kfa,kga] at hK)
   | (go_at_call 103;refine (hvv _ W1b).mono ?_;rintro _ w5 ⟨rfl,hb1⟩;have W1b:=below_step W1b hb1;have ho5:=owns_below ho4 hb1;have hkept:=keepT hkept hb1 rfl;clear hK;have hK:=hkept;simp only [Kept,ka,kb,kc,kd,ke,kfa,kga] at hK))
 have hV5:ViewIn ns w.heap.size nb no cap a b c d e f wd nx ny lx ly lz near most m w5:=hV _ W1b (by have hK2:=hkept;simp only [Kept,ka,kb,kc,kd,ke,kfa,kga] at hK2;simp only [Kept,ka,kb,kc,kd,ke,kfa,kga];simp [hK2])
 obtain ⟨tp,tg,tq,tc,rfl,htp,hT5⟩:=row_tiles ho5 rfl
 clear hti hvv ho4 ho5 hb1 hV hK
 generalize tilL nx ny s = ts at *
 have hpos:(0:Int) ≤ (ts.length:Int):=by omega
 have h5s:=W1b.size
 have W5b:Below w5.heap.size w5 (w5.alloc (.cells #[] 2)):=(Below.refl _ _).alloc (Nat.le_refl _) _
 have hK:=hkept;simp only [Kept,ka,kb,kc,kd,ke,kfa,kga] at hK
 go_wp2_with fail
 clear hkept hK
 go_loopw [8,30] (fun v i wr => ∃ (k:Nat),k ≤ ts.length ∧ i = .int .i64 (k:Int) ∧ w5.heap.size ≤ wr.heap.size ∧ wr.ownsRow w5.heap.size 2 1 v k (il (chkL SH (ts.take k))) ∧ Below w5.heap.size w5 wr) (fun _ i _ => ts.length - (intOf i).toNat)
 case atStart => exact ⟨0,by omega,rfl,by simp,World.ownsRow_lit w5 #[] 0 (Nat.le_refl _) (by unfold maxLen;omega) rfl,W5b⟩
 case round =>
  obtain ⟨k,hk,rfl,hsz,hown,Wb⟩:=hrel
  by_cases hlt:k < ts.length
  ·have hlt':(k:Int) < (ts.length:Int):=by omega
   have h0:(0:Int) ≤ (k:Int):=by omega
   have hne:=htp (by intro h;rw [h] at hlt;simp at hlt)
   subst hne
   have hkept:=(hT5.keep Wb) k hlt
   obtain ⟨X,Y,u,v,hte,hX,hY,hu1,hu,hv1,hv⟩:=tile_nat hx2 hy2 (hTin _ (List.getElem_mem hlt))
   have hnx:=chkL_next SH ts k hlt
   have hcl:=chkL_len SH ts k hk
   rw [hte] at hkept hnx
   simp only at hkept
   unfold chkT at hnx
   simp only [Int.toNat_natCast] at hnx
   have hpl:=picB_len SH X Y u v
   have hpl2:v * u ≤ 12 * 12:=Nat.mul_le_mul hv hu
   have hVr:=hV5.keep Wb
   replace hren:=fun w' h => hren X Y u v w' hX hY hu1 hu hv1 hv h
   generalize picB SH X Y u v = Pb at *
   generalize chkL SH (ts.take k) = L at *
   have hP:Pb.length ≤ 1000000:=by omega
   obtain ⟨cc,hcc⟩:∃ cc,chk 0 Pb = cc:=⟨_,rfl⟩
   rw [hcc] at hnx
   have hnx2:=Lib.hid hnx
   clear hnx hTin
   have hK:=hkept;simp only [Kept,ka,kb,kc,kd,ke,kfa,kga] at hK
   go_upto_region 8 with fail
   have Wb8:Below w5.heap.size w5 (wr.alloc (.cells #[.int .i64 X,.int .i64 Y,.int .i64 (u:Int),.int .i64 (v:Int)] 99)):=Wb.alloc hsz _
   have hown8:(wr.alloc (.cells #[.int .i64 X,.int .i64 Y,.int .i64 (u:Int),.int .i64 (v:Int)] 99)).ownsRow w5.heap.size 2 1 _ k (il L):=hown.alloc _
   have hV8:=hVr.keep (show Below wr.heap.size wr (wr.alloc (.cells #[.int .i64 X,.int .i64 Y,.int .i64 (u:Int),.int .i64 (v:Int)] 99)) from (Below.refl _ _).alloc (Nat.le_refl _) _)
   have hkept:Kept [(⟨wr.heap.size,0,none⟩,.int .i64 X),(⟨wr.heap.size,1,none⟩,.int .i64 Y),(⟨wr.heap.size,2,none⟩,.int .i64 (u:Int)),(⟨wr.heap.size,3,none⟩,.int .i64 (v:Int))] [] (wr.alloc (.cells #[.int .i64 X,.int .i64 Y,.int .i64 (u:Int),.int .i64 (v:Int)] 99)):=by simp only [Kept,ka,kb,kc,kd,ke,kfa,kga];simp
   have hre:=hren _ hV8
   clear hown Wb hVr hV8 hK hren
   generalize wr.alloc (.cells #[.int .i64 X,.int .i64 Y,.int .i64 (u:Int),.int .i64 (v:Int)] 99) = w8 at *
   have hK:=hkept;simp only [Kept,ka,kb,kc,kd,ke,kfa,kga] at hK
   go_wp2_with (first
    | (go_at_call 112;refine hre.mono ?_;rintro _ w6 ⟨rfl,hb1⟩;have Wb6:=below_step Wb8 hb1;have hown6:=owns_below hown8 hb1;clear hown8)
    | (go_at_call 116;refine (check_any 0 ⟨by decide,by decide⟩ Pb hP _).mono ?_;rintro _ w7 ⟨rfl,rfl⟩;rw [hcc])
    | (at_builtin;refine wp_appI w5.heap.size rfl (.tmp 40) (.tmp 42) rfl _ _ L rfl (hown6.alloc _) w6.heap.size cc rfl (by simp) (by omega) (by have:=Wb6.size;simp;omega) ?_;intro v7 w9 hown9 hg9))
   refine ⟨⟨k + 1,by omega,by simp,Nat.le_trans Wb6.size (by have:=hg9.size;simp at this;omega),by rw [hnx2.out];exact hown9,grown_below (Wb6.alloc Wb6.size _) (hown6.alloc _) hg9 (Nat.le_refl _)⟩,by simp [intOf];omega⟩
  ·obtain rfl:k = ts.length:=by omega
   rw [List.take_of_length_le (Nat.le_refl _),hLf] at hown
   have hcl:L9.length = ts.length:=by rw [← hLf];unfold chkL;rw [List.length_map]
   go_wp2_with fail
   exact bodyPost_ret (v:=.tuple #[u8,.bool true]) (by simp [results,Tryz.results57,go_sem];first | done | (rfl;done) | (repeat' constructor)) rfl (retIl_yes rfl (by rw [hcl];exact row_low hown (by omega)) (below_step W1b Wb))
end Go.Proofs.YtbiacfkiakddiaaGreat

namespace Go.Proofs.YtbiacfkiakddiaaGreat
open Go.RowKit Go.Fl
set_option maxRecDepth 100000 in
set_option maxHeartbeats 4000000 in
theorem to_floatsW (xs:List Nat) (hlen:(xs.length:Int) ≤ 1048576) (bp:Option Addr) (bv ov cap:Nat) (w:World) (h1:xs ≠ [] → bp = some ⟨bv,ov,none⟩) (h2:∀ i (h:i < xs.length),w.cell? ⟨bv,ov + i,none⟩ = some (F1 xs[i])) :
  Calls Tryz.prog 203 #[.slice bp xs.length cap] w (fun e w' => ∃ g,e = .returned (.slice (some ⟨g,0,none⟩) xs.length xs.length) ∧ (∀ i (h:i < xs.length),w'.cell? ⟨g,0 + i,none⟩ = some (F1 xs[i])) ∧ w.heap.size ≤ g ∧ Below w.heap.size w w' ∧ g < w'.heap.size ∧ ∀ o,w'.frozen? ⟨g,o,none⟩ = false):=by
 obtain ⟨A,hA,hmk⟩:=make_floats xs.length hlen w
 go_enter Tryz.func203,Tryz.ntmps203
 go_wp2_with fail
 have W1b:Below w.heap.size w (w.alloc (.cells A 25)):=(by repeat' (first | exact Below.refl _ _ | exact Nat.le_refl _ | refine below_drewN ?_ _ | refine Below.alloc ?_ (by simp <;> omega) _ | refine Below.setCell ?_ (by simp <;> omega) _ | refine below_step ?_ (by assumption)))

 have hpar:=heap_alloc_at w (.cells A 25)
 generalize w.alloc (.cells A 25) = W1 at *
 clear hmk
 go_loopw [4] (fun i wr => ∃ (m:Nat) (A:Array Value),m ≤ xs.length ∧ i = .int .i64 (m:Int) ∧ A.size = xs.length ∧ wr.heap[w.heap.size]? = some (.cells A 25 (0,0)) ∧ (∀ k (h:k < xs.length),k < m → A[k]? = some (F1 xs[k])) ∧ Below w.heap.size w wr) (fun i _ => xs.length - (intOf i).toNat)
 case atStart => exact ⟨0,A,by omega,rfl,hA,hpar,fun k _ h => by omega,W1b⟩
 case round =>
  obtain ⟨m,A',hm,rfl,hA',hpar',hk,Wb⟩:=hrel
  clear hpar W1b
  by_cases hlt:m < xs.length
  ·have hlt':(m:Int) < (xs.length:Int):=by omega
   have h0:(0:Int) ≤ (m:Int):=by omega
   have hne:xs ≠ []:=by intro h;rw [h] at hlt;simp at hlt
   have hbp:=h1 hne
   subst hbp
   have hc:wr.cell? ⟨bv,ov + m,none⟩ = some (F1 xs[m]):=by rw [lift Wb _ (by rw [h2 m hlt];rfl)];exact h2 m hlt
   have hold:wr.cell? ⟨w.heap.size,m,none⟩ = some (A'[m]'(by omega)):=by rw [arr_cell hpar',Array.getElem?_eq_getElem (by omega)]
   have hfz:=arr_frozen hpar'
   have hset:=arr_set hpar' m (F1 xs[m])
   have hb3:=Wb.setCell (p:=⟨w.heap.size,m,none⟩) (Nat.le_refl _) (Value.float .f32 xs[m])
   have hnew:Hid (∀ k (h:k < xs.length),k < m + 1 → (A'.setIfInBounds m (F1 xs[m]))[k]? = some (F1 xs[k])):=fun k h hkm => by
    by_cases hkm':k = m
    ·subst hkm'
     rw [Array.getElem?_setIfInBounds_self_of_lt (by omega)]
    ·rw [Array.getElem?_setIfInBounds_ne (by omega)]
     exact hk k h (by omega)
   have hH:=Lib.hid hset
   clear hk hset hpar' h2 h1
   generalize xs[m] = xv at hc hb3 hH hnew
   go_wp2_with fail
   exact ⟨⟨m + 1,_,by omega,by simp,by simpa using hA',hH.out,hnew.out,hb3⟩,by simp [intOf];omega⟩
  ·obtain rfl:m = xs.length:=by omega
   have hH:=Lib.hid hk
   have hP:=Lib.hid hpar'
   clear hk hpar' h1 h2
   go_wp2_with fail
   go_ret
   exact ⟨w.heap.size,rfl,fun i hi => by rw [Nat.zero_add,arr_cell hP.out];exact hH.out i hi hi,Nat.le_refl _,Wb,(Array.getElem?_eq_some_iff.1 hP.out).1,fun o => arr_frozen hP.out o⟩

def RetNW (n:PN) (w:World) (e:Ending) (w':World):Prop :=
 ∃ g,e = .returned (.agg #[.int .i64 n.kind,.int .i64 n.a,.int .i64 n.b,.slice (some ⟨g,0,none⟩) n.nums.length n.nums.length]) ∧ (∀ i (h:i < n.nums.length),w'.cell? ⟨g,0 + i,none⟩ = some (F1 n.nums[i])) ∧ w.heap.size ≤ g ∧ Below w.heap.size w w' ∧ g < w'.heap.size ∧ ∀ o,w'.frozen? ⟨g,o,none⟩ = false

set_option maxRecDepth 100000 in
set_option maxHeartbeats 4000000 in
theorem to_nodeW (n:PN) (hlen:(n.nums.length:Int) ≤ 1048576) (bp:Option Addr) (bv ov cap:Nat) (w:World) (h1:n.nums ≠ [] → bp = some ⟨bv,ov,none⟩) (h2:∀ i (h:i < n.nums.length),w.cell? ⟨bv,ov + i,none⟩ = some (F1 n.nums[i])) :
  Calls Tryz.prog 127 #[.agg #[.int .i64 n.kind,.int .i64 n.a,.int .i64 n.b,.slice bp n.nums.length cap]] w (RetNW n w):=by
 have hc:∀ w',Below w.heap.size w w' → Calls Tryz.prog 203 #[.slice bp n.nums.length cap] w' (fun e w'' => ∃ g,e = .returned (.slice (some ⟨g,0,none⟩) n.nums.length n.nums.length) ∧ (∀ i (h:i < n.nums.length),w''.cell? ⟨g,0 + i,none⟩ = some (F1 n.nums[i])) ∧ w'.heap.size ≤ g ∧ Below w'.heap.size w' w'' ∧ g < w''.heap.size ∧ ∀ o,w''.frozen? ⟨g,o,none⟩ = false) :=
  fun w' hb => to_floatsW n.nums hlen bp bv ov cap w' h1 (fun i h => by rw [lift hb _ (by rw [h2 i h];rfl)];exact h2 i h)
 clear h1 h2
 go_enter Tryz.func127,Tryz.ntmps127
 go_wp2_with fail
 have Wb:Below w.heap.size w (((w.alloc (.cells #[.int .i64 n.kind,.int .i64 n.a,.int .i64 n.b,.slice bp n.nums.length cap] 175)).alloc (.cells #[.int .i64 0,.int .i64 0,.int .i64 0,.slice none 0 0] 142)).alloc (.cells #[.int .i64 n.kind,.int .i64 n.a,.int .i64 n.b,.slice none 0 0] 142)):=(by repeat' (first | exact Below.refl _ _ | exact Nat.le_refl _ | refine below_drewN ?_ _ | refine Below.alloc ?_ (by simp <;> omega) _ | refine Below.setCell ?_ (by simp <;> omega) _ | refine below_step ?_ (by assumption)))

 have hkept:Kept [(⟨w.heap.size + 1,0,none⟩,.int .i64 0),(⟨w.heap.size + 1,1,none⟩,.int .i64 0),(⟨w.heap.size + 1,2,none⟩,.int .i64 0),(⟨w.heap.size + 1,3,none⟩,.slice none 0 0),(⟨w.heap.size + 1 + 1,0,none⟩,.int .i64 n.kind),(⟨w.heap.size + 1 + 1,1,none⟩,.int .i64 n.a),(⟨w.heap.size + 1 + 1,2,none⟩,.int .i64 n.b),(⟨w.heap.size + 1 + 1,3,none⟩,.slice none 0 0)] [⟨w.heap.size + 1,0,none⟩,⟨w.heap.size + 1,1,none⟩,⟨w.heap.size + 1,2,none⟩,⟨w.heap.size + 1,3,none⟩,⟨w.heap.size + 1 + 1,3,none⟩] (((w.alloc (.cells #[.int .i64 n.kind,.int .i64 n.a,.int .i64 n.b,.slice bp n.nums.length cap] 175)).alloc (.cells #[.int .i64 0,.int .i64 0,.int .i64 0,.slice none 0 0] 142)).alloc (.cells #[.int .i64 n.kind,.int .i64 n.a,.int .i64 n.b,.slice none 0 0] 142)):=by
  simp only [Kept,ka,kb,kc,kd,ke,kfa,kga];(first | (go_simp;done) | (simp [World.cell?,World.frozen?,World.alloc,Array.getElem?_push];done))
 have hWs:(((w.alloc (.cells #[.int .i64 n.kind,.int .i64 n.a,.int .i64 n.b,.slice bp n.nums.length cap] 175)).alloc (.cells #[.int .i64 0,.int .i64 0,.int .i64 0,.slice none 0 0] 142)).alloc (.cells #[.int .i64 n.kind,.int .i64 n.a,.int .i64 n.b,.slice none 0 0] 142)).heap.size = w.heap.size + 1 + 1 + 1:=by simp
 generalize (((w.alloc (.cells #[.int .i64 n.kind,.int .i64 n.a,.int .i64 n.b,.slice bp n.nums.length cap] 175)).alloc (.cells #[.int .i64 0,.int .i64 0,.int .i64 0,.slice none 0 0] 142)).alloc (.cells #[.int .i64 n.kind,.int .i64 n.a,.int .i64 n.b,.slice none 0 0] 142)) = W at *
 refine (hc _ Wb).mono ?_
 rintro _ w2 ⟨g,rfl,hnum,hg,hb2,hgz,hfr⟩
 have hF:=Lib.hid hfr
 have hZ:=Lib.hid hgz
 clear hfr hgz
 have W2b:=below_step Wb hb2
 have hkept2:=keep hkept hb2
 have hK:=hkept2
 simp only [Kept,ka,kb,kc,kd,ke,kfa,kga] at hK
 have hgs:w.heap.size + 1 + 1 < g:=by omega
 have hH:=Lib.hid hnum
 clear hc hkept hb2 Wb hnum hkept2 hg hWs
 obtain ⟨hK1,hK2⟩:=hK
 go_wp2_with fail
 obtain ⟨hK1a,hK1b⟩:=hK1
 refine bodyPost_ret (v:=.agg #[.int .i64 n.kind,.int .i64 n.a,.int .i64 n.b,.slice (some ⟨g,0,none⟩) n.nums.length n.nums.length]) (by simp [results,Tryz.results127,go_sem,hK1a,hK1b,hK2]) rfl ⟨g,rfl,fun i hi => ?_,by omega,?_,?_,fun o => ?_⟩
 ·rw [World.cell?_setCell_far _ _ _ _ (by show w.heap.size + 1 ≠ g;omega),World.cell?_setCell_far _ _ _ _ (by show w.heap.size + 1 ≠ g;omega),World.cell?_setCell_far _ _ _ _ (by show w.heap.size + 1 ≠ g;omega),World.cell?_setCell_far _ _ _ _ (by show w.heap.size + 1 ≠ g;omega),World.cell?_setCell_far _ _ _ _ (by show w.heap.size + 1 + 1 ≠ g;omega)]
  exact hH.out i hi
 ·exact ((((W2b.setCell (by show w.heap.size ≤ w.heap.size + 1 + 1;omega) _).setCell (by exact Nat.le_succ _) _).setCell (by exact Nat.le_succ _) _).setCell (by exact Nat.le_succ _) _).setCell (by exact Nat.le_succ _) _
 ·simpa [World.setCell] using hZ.out
 ·simp only [World.frozen?_setCell]
  exact hF.out o

theorem NumFree.made {G o g:Nat} {w:World} {A:Array Value} {T:TypeId} {a b c:Value} {n m:Nat} (hA:w.heap[G]? = some (.cells A T (0,0))) (hs:o + 4 ≤ A.size) (hg:G < g) (hgs:g < w.heap.size) (hf:∀ j,w.frozen? ⟨g,j,none⟩ = false) :
  NumFree G o ((((w.setCell ⟨G,o,none⟩ a).setCell ⟨G,o + 1,none⟩ b).setCell ⟨G,o + 2,none⟩ c).setCell ⟨G,o + 3,none⟩ (.slice (some ⟨g,0,none⟩) n m)):=by
 have h4:=arr_set (arr_set (arr_set (arr_set hA o a) (o + 1) b) (o + 2) c) (o + 3) (.slice (some ⟨g,0,none⟩) n m)
 refine ⟨g,n,m,hg,?_,by simpa [World.setCell] using hgs,fun j => by simp only [World.frozen?_setCell];exact hf j⟩
 rw [arr_cell h4,Array.getElem?_setIfInBounds_self_of_lt (by simp;omega)]

set_option maxRecDepth 100000 in
set_option maxHeartbeats 4000000 in
theorem to_nodesW (ns:List PN) (hlen:(ns.length:Int) ≤ 1048576) (hnum:∀ n ∈ ns,(n.nums.length:Int) ≤ 1048576) (bp:Option Addr) (nb no cap:Nat) (w:World) (hns:NodesIn ns bp nb no w) :
  Calls Tryz.prog 63 #[.slice bp ns.length cap] w (fun e w' => ∃ G,e = .returned (.slice (some ⟨G,0,none⟩) ns.length ns.length) ∧ (∀ i (h:i < ns.length),NodeNew ns[i] G (0 + i * 4) w' ∧ NumFree G (0 + i * 4) w') ∧ w.heap.size ≤ G ∧ Below w.heap.size w w' ∧ (G < w'.heap.size ∧ ∀ o,w'.frozen? ⟨G,o,none⟩ = false)):=by
 obtain ⟨A,hA,hmk⟩:=make_nodes ns.length hlen w
 go_enter Tryz.func63,Tryz.ntmps63
 go_wp2_with fail
 have W1b:Below w.heap.size w (w.alloc (.cells A 142)):=(by repeat' (first | exact Below.refl _ _ | exact Nat.le_refl _ | refine below_drewN ?_ _ | refine Below.alloc ?_ (by simp <;> omega) _ | refine Below.setCell ?_ (by simp <;> omega) _ | refine below_step ?_ (by assumption)))

 have hpar:=heap_alloc_at w (.cells A 142)
 generalize w.alloc (.cells A 142) = W1 at *
 clear hmk
 go_loopw [4] (fun i wr => ∃ (m:Nat) (A:Array Value),m ≤ ns.length ∧ i = .int .i64 (m:Int) ∧ A.size = ns.length * 4 ∧ wr.heap[w.heap.size]? = some (.cells A 142 (0,0)) ∧ (∀ k (h:k < ns.length),k < m → NodeNew ns[k] w.heap.size (k * 4) wr ∧ NumFree w.heap.size (k * 4) wr) ∧ Below w.heap.size w wr) (fun i _ => ns.length - (intOf i).toNat)
 case atStart => exact ⟨0,A,by omega,rfl,hA,hpar,fun k _ h => by omega,W1b⟩
 case round =>
  obtain ⟨m,A',hm,rfl,hA',hpar',hk,Wb⟩:=hrel
  clear hpar W1b
  by_cases hlt:m < ns.length
  ·have hlt':(m:Int) < (ns.length:Int):=by omega
   have h0:(0:Int) ≤ (m:Int):=by omega
   have hne:ns ≠ []:=by intro h;rw [h] at hlt;simp at hlt
   have hbp:=hns.ptr hne
   subst hbp
   have hn:=(hns.node m hlt).keep Wb
   have hnl:=hnum ns[m] (List.getElem_mem _)
   obtain ⟨np,nv,nvo,ncap,hn4,hn5,hn6⟩:=hn.nums
   have hn1:=hn.kind
   have hn2:=hn.a
   have hn3:=hn.b
   have hGs:w.heap.size < wr.heap.size:=(Array.getElem?_eq_some_iff.1 hpar').1
   have hc:=to_nodeW ns[m] hnl np nv nvo ncap wr hn5 hn6
   have hkeep:∀ w2,Below wr.heap.size wr w2 → ∀ k (h:k < ns.length),k < m → NodeNew ns[k] w.heap.size (k * 4) w2 ∧ NumFree w.heap.size (k * 4) w2:=fun w2 hb k h hkm => ⟨(hk k h hkm).1.keep hb,(hk k h hkm).2.keep hb⟩
   have hHk:=Lib.hid hkeep
   have hHp:=Lib.hid hpar'
   have hHns:=Lib.hid hns
   have hHnum:=Lib.hid hnum
   have hnm:ns[m] = ns[m]:=rfl
   clear hn hn5 hn6 hnl hk hkeep hpar' hns hnum hnm
   have hold:Hid (ns[m] = ns[m]):=rfl
   generalize hgn:ns[m] = n at hn1 hn2 hn3 hn4 hc
   have hHgn:=Lib.hid hgn
   clear hgn hold
   go_wp2_with fail
   refine hc.mono ?_
   rintro _ w2 ⟨g,rfl,hg2,hgs,hb2,hgz,hfr⟩
   have hpar2:w2.heap[w.heap.size]? = some (.cells A' 142 (0,0)):=by rw [hb2.block _ hGs];exact hHp.out
   have hcell:∀ j (hj:j < 4),w2.cell? ⟨w.heap.size,m * 4 + j,none⟩ = some (A'[m * 4 + j]'(by omega)):=fun j hj => by rw [arr_cell hpar2,Array.getElem?_eq_getElem (by omega)]
   have hc0:w2.cell? ⟨w.heap.size,m * 4,none⟩ = some (A'[m * 4]'(by omega)):=by rw [arr_cell hpar2,Array.getElem?_eq_getElem (by omega)]
   have hc1:=hcell 1 (by omega)
   have hc2:=hcell 2 (by omega)
   have hc3:=hcell 3 (by omega)
   have hfz:=arr_frozen hpar2
   have hmade:=NodeNew.made (n:=n) (o:=m * 4) hpar2 (by omega) (show w.heap.size < g by omega) hg2
   have h4:=arr_set (arr_set (arr_set (arr_set hpar2 (m * 4) (.int .i64 n.kind)) (m * 4 + 1) (.int .i64 n.a)) (m * 4 + 2) (.int .i64 n.b)) (m * 4 + 3) (.slice (some ⟨g,0,none⟩) n.nums.length n.nums.length)
   have hb4:=((((below_step Wb hb2).setCell (p:=⟨w.heap.size,m * 4,none⟩) (Nat.le_refl _) (.int .i64 n.kind)).setCell (p:=⟨w.heap.size,m * 4 + 1,none⟩) (Nat.le_refl _) (.int .i64 n.a)).setCell (p:=⟨w.heap.size,m * 4 + 2,none⟩) (Nat.le_refl _) (.int .i64 n.b)).setCell (p:=⟨w.heap.size,m * 4 + 3,none⟩) (Nat.le_refl _) (.slice (some ⟨g,0,none⟩) n.nums.length n.nums.length)
   have hall:Hid (∀ k (h:k < ns.length),k < m + 1 → NodeNew ns[k] w.heap.size (k * 4) ((((w2.setCell ⟨w.heap.size,m * 4,none⟩ (.int .i64 n.kind)).setCell ⟨w.heap.size,m * 4 + 1,none⟩ (.int .i64 n.a)).setCell ⟨w.heap.size,m * 4 + 2,none⟩ (.int .i64 n.b)).setCell ⟨w.heap.size,m * 4 + 3,none⟩ (.slice (some ⟨g,0,none⟩) n.nums.length n.nums.length)) ∧ NumFree w.heap.size (k * 4) ((((w2.setCell ⟨w.heap.size,m * 4,none⟩ (.int .i64 n.kind)).setCell ⟨w.heap.size,m * 4 + 1,none⟩ (.int .i64 n.a)).setCell ⟨w.heap.size,m * 4 + 2,none⟩ (.int .i64 n.b)).setCell ⟨w.heap.size,m * 4 + 3,none⟩ (.slice (some ⟨g,0,none⟩) n.nums.length n.nums.length))):=fun k h hkm => by
    by_cases hkm':k = m
    ·subst hkm'
     rw [hHgn.out];exact ⟨hmade,NumFree.made hpar2 (by omega) (show w.heap.size < g by omega) hgz hfr⟩
    ·exact ⟨(((((hHk.out w2 hb2 k h (by omega)).1.set _ (by omega) _).set _ (by omega) _).set _ (by omega) _).set _ (by omega) _),(((((hHk.out w2 hb2 k h (by omega)).2.set _ (by omega) _).set _ (by omega) _).set _ (by omega) _).set _ (by omega) _)⟩
   have hH4:=Lib.hid h4
   clear hcell hmade h4 hpar2 hg2 hc hb2 hgz hfr
   go_wp2_with fail
   exact ⟨⟨m + 1,_,by omega,by simp,by simpa using hA',hH4.out,hall.out,hb4⟩,by simp [intOf];omega⟩
  ·obtain rfl:m = ns.length:=by omega
   have hH:=Lib.hid hk
   have hP:=Lib.hid hpar'
   clear hk hpar' hns hnum
   go_wp2_with fail
   go_ret
   exact ⟨w.heap.size,rfl,fun i hi => by rw [Nat.zero_add];exact hH.out i hi hi,Nat.le_refl _,Wb,⟨(Array.getElem?_eq_some_iff.1 hP.out).1,fun o => arr_frozen hP.out o⟩⟩
end Go.Proofs.YtbiacfkiakddiaaGreat
