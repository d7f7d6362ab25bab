/-
  Rows: rays, marches and boxes that come in, taken apart.
-/
import Derived.Test.YtdbpgblhnhdhoaaGreatRq
set_option linter.unusedVariables false
set_option linter.unusedSimpArgs false
namespace Go.Proofs.YtdbpgblhnhdhoaaGreat
open Go.RowKit Go.Fl Go.ChangeShapes Go.WideShapes Go.ChangeAt

theorem six {α : Type} {l : List α} (h : l.length = 6) : ∃ a b c d e f, l = [a, b, c, d, e, f] := by
  match l, h with
  | [a, b, c, d, e, f], _ => exact ⟨a, b, c, d, e, f, rfl⟩
theorem duo {α : Type} {l : List α} (h : l.length = 2) : ∃ a b, l = [a, b] := by
  match l, h with
  | [a, b], _ => exact ⟨a, b, rfl⟩

set_option maxRecDepth 100000 in
/-- Three cells of a vector. -/
theorem trod_vec {H : Type} {enc : TypeId × Value → H} {w : World} {base fuel : Nat} {spare : Nat → Bool} {held : Bool} {c0 c1 c2 : Value} {x : DataW H × List MemPlace} (h : DataW.trod enc Tryz.prog w base spare held fuel 27 [c0, c1, c2] = some x) :
    ∃ a b c : Nat, c0 = F1 a ∧ c1 = F1 b ∧ c2 = F1 c := by
  obtain ⟨ys, n', -, -, -, hyl, hg⟩ := DataW.trod_struct Tryz.underlying27 h
  obtain ⟨y0, y1, y2, rfl⟩ := three (hyl.trans rfl)
  have t0 : DataW.trod enc Tryz.prog w base spare held n' 25 [c0] = some y0 := hg 0 _ rfl
  have t1 : DataW.trod enc Tryz.prog w base spare held n' 25 [c1] = some y1 := hg 1 _ rfl
  have t2 : DataW.trod enc Tryz.prog w base spare held n' 25 [c2] = some y2 := hg 2 _ rfl
  obtain ⟨x, e0⟩ := trod_flt Tryz.underlying25 t0
  obtain ⟨y, e1⟩ := trod_flt Tryz.underlying25 t1
  obtain ⟨z, e2⟩ := trod_flt Tryz.underlying25 t2
  injection e0 with e0
  injection e1 with e1
  injection e2 with e2
  exact ⟨x, y, z, e0, e1, e2⟩

set_option maxRecDepth 100000 in
/-- A ray that came in. -/
theorem open_ray {H : Type} {enc : TypeId × Value → H} {w : World} {base b0 : Nat} {r : Reach} {spare : Nat → Bool} {held : Bool} {v : Value} {d : DataW H} {p : List MemPlace} (hv : Value.okWide Tryz.prog w r b0 66 v) (h : DataW.Trod enc Tryz.prog w base spare held 66 v d p) :
    ∃ a b c d e f : Nat, v = .agg #[F1 a, F1 b, F1 c, F1 d, F1 e, F1 f] := by
  obtain ⟨cs, rfl, hsz⟩ := okWide_struct Tryz.underlying66 hv
  have hC : Tryz.prog.cellsOf 66 = 6 := by kernel_rfl
  obtain ⟨l⟩ := cs
  obtain ⟨c0, c1, c2, c3, c4, c5, rfl⟩ := six (show l.length = 6 from hsz.trans hC)
  obtain ⟨fuel, hf⟩ := h
  obtain ⟨ys, n', -, -, -, hyl, hg⟩ := DataW.trod_struct Tryz.underlying66 hf
  obtain ⟨y0, y1, rfl⟩ := duo (hyl.trans rfl)
  have t0 : DataW.trod enc Tryz.prog w base spare held n' 27 [c0, c1, c2] = some y0 := hg 0 _ rfl
  have t1 : DataW.trod enc Tryz.prog w base spare held n' 27 [c3, c4, c5] = some y1 := hg 1 _ rfl
  obtain ⟨a, b, c, e0, e1, e2⟩ := trod_vec t0
  obtain ⟨d', e', f', e3, e4, e5⟩ := trod_vec t1
  exact ⟨a, b, c, d', e', f', by rw [e0, e1, e2, e3, e4, e5]⟩

set_option maxRecDepth 100000 in
/-- A march that came in. -/
theorem open_march {H : Type} {enc : TypeId × Value → H} {w : World} {base b0 : Nat} {r : Reach} {spare : Nat → Bool} {held : Bool} {v : Value} {d : DataW H} {p : List MemPlace} (hv : Value.okWide Tryz.prog w r b0 59 v) (h : DataW.Trod enc Tryz.prog w base spare held 59 v d p) :
    ∃ (a b : Nat) (n : Int), v = .agg #[F1 a, F1 b, .int .i64 n] := by
  obtain ⟨cs, rfl, hsz⟩ := okWide_struct Tryz.underlying59 hv
  have hC : Tryz.prog.cellsOf 59 = 3 := by kernel_rfl
  obtain ⟨l⟩ := cs
  obtain ⟨c0, c1, c2, rfl⟩ := three (show l.length = 3 from hsz.trans hC)
  obtain ⟨fuel, hf⟩ := h
  obtain ⟨ys, n', -, -, -, hyl, hg⟩ := DataW.trod_struct Tryz.underlying59 hf
  obtain ⟨y0, y1, y2, rfl⟩ := three (hyl.trans rfl)
  have t0 : DataW.trod enc Tryz.prog w base spare held n' 25 [c0] = some y0 := hg 0 _ rfl
  have t1 : DataW.trod enc Tryz.prog w base spare held n' 25 [c1] = some y1 := hg 1 _ rfl
  have t2 : DataW.trod enc Tryz.prog w base spare held n' 2 [c2] = some y2 := hg 2 _ rfl
  obtain ⟨x, e0⟩ := trod_flt Tryz.underlying25 t0
  obtain ⟨y, e1⟩ := trod_flt Tryz.underlying25 t1
  obtain ⟨n, e2⟩ := trod_i64 t2
  injection e0 with e0
  injection e1 with e1
  injection e2 with e2
  exact ⟨x, y, n, by rw [e0, e1, e2]⟩

set_option maxRecDepth 100000 in
/-- A box that came in. -/
theorem open_box {H : Type} {enc : TypeId × Value → H} {w : World} {base b0 : Nat} {r : Reach} {spare : Nat → Bool} {held : Bool} {v : Value} {d : DataW H} {p : List MemPlace} (hv : Value.okWide Tryz.prog w r b0 77 v) (h : DataW.Trod enc Tryz.prog w base spare held 77 v d p) :
    ∃ a b c d e f : Nat, v = .agg #[F1 a, F1 b, F1 c, F1 d, F1 e, F1 f] := by
  obtain ⟨cs, rfl, hsz⟩ := okWide_struct Tryz.underlying77 hv
  have hC : Tryz.prog.cellsOf 77 = 6 := by kernel_rfl
  obtain ⟨l⟩ := cs
  obtain ⟨c0, c1, c2, c3, c4, c5, rfl⟩ := six (show l.length = 6 from hsz.trans hC)
  obtain ⟨fuel, hf⟩ := h
  obtain ⟨ys, n', -, -, -, hyl, hg⟩ := DataW.trod_struct Tryz.underlying77 hf
  obtain ⟨y0, y1, rfl⟩ := duo (hyl.trans rfl)
  have t0 : DataW.trod enc Tryz.prog w base spare held n' 27 [c0, c1, c2] = some y0 := hg 0 _ rfl
  have t1 : DataW.trod enc Tryz.prog w base spare held n' 27 [c3, c4, c5] = some y1 := hg 1 _ rfl
  obtain ⟨a, b, c, e0, e1, e2⟩ := trod_vec t0
  obtain ⟨d', e', f', e3, e4, e5⟩ := trod_vec t1
  exact ⟨a, b, c, d', e', f', by rw [e0, e1, e2, e3, e4, e5]⟩
end Go.Proofs.YtdbpgblhnhdhoaaGreat
