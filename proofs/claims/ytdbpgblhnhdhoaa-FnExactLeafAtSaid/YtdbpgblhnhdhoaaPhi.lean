/-
  The contracts of the functions that only compute, as a table.
-/
import Derived.Test.YtdbpgblhnhdhoaaW4
set_option linter.unusedVariables false
set_option linter.unusedSimpArgs false
namespace Go.Proofs.Ytdbpgblhnhdhoaa
open Go.RowKit Go.Fl

abbrev V3 (a b c : Nat) : Value := .agg #[.float .f32 a, .float .f32 b, .float .f32 c]
abbrev F1 (a : Nat) : Value := .float .f32 a

inductive PhiF : FuncId → Array Value → Value → Prop
  | long (a b c r : Nat) (h : cn .f32 r = longF (cn .f32 a) (cn .f32 b) (cn .f32 c)) : PhiF 69 #[V3 a b c] (F1 r)
  | inner (a b c d e f r : Nat) (h : cn .f32 r = innerF (cn .f32 a) (cn .f32 b) (cn .f32 c) (cn .f32 d) (cn .f32 e) (cn .f32 f)) : PhiF 73 #[V3 a b c, V3 d e f] (F1 r)
  | size (a r : Nat) (h : cn .f32 r = sizeF (cn .f32 a)) : PhiF 44 #[F1 a] (F1 r)
  | lesser (a b r : Nat) (h : cn .f32 r = lesserF (cn .f32 a) (cn .f32 b)) : PhiF 71 #[F1 a, F1 b] (F1 r)
  | greater (a b r : Nat) (h : cn .f32 r = greaterF (cn .f32 a) (cn .f32 b)) : PhiF 70 #[F1 a, F1 b] (F1 r)
  | short (a b r : Nat) (h : cn .f32 r = shortF (cn .f32 a) (cn .f32 b)) : PhiF 72 #[F1 a, F1 b] (F1 r)
  | bulge (a b r : Nat) (h : cn .f32 r = bulgeF (cn .f32 a) (cn .f32 b)) : PhiF 74 #[F1 a, F1 b] (F1 r)
  | fold (a b r : Nat) (h : cn .f32 r = foldF (cn .f32 a) (cn .f32 b)) : PhiF 45 #[F1 a, F1 b] (F1 r)
  | coords (a b c : Nat) : PhiF 41 #[V3 a b c] (V3 a b c)
  | vector (a b c : Nat) : PhiF 46 #[V3 a b c] (V3 a b c)
  | less (a b c d e f x y z : Nat) (h1 : cn .f32 x = B .sub (cn .f32 a) (cn .f32 d)) (h2 : cn .f32 y = B .sub (cn .f32 b) (cn .f32 e)) (h3 : cn .f32 z = B .sub (cn .f32 c) (cn .f32 f)) : PhiF 42 #[V3 a b c, V3 d e f] (V3 x y z)
  | sine (a r : Nat) (h : cn .f32 r = sineF (cn .f32 a)) : PhiF 43 #[F1 a] (F1 r)
end Go.Proofs.Ytdbpgblhnhdhoaa
