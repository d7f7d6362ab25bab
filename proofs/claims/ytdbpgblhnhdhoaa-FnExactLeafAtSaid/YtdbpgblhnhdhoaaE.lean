/-
  The entries of the model that the program calls.
-/
import Derived.Test.YtdbpgblhnhdhoaaChecked
import Derived.Test.YtdbpgblhnhdhoaaFl
import Derived.KernelRfl
set_option linter.unusedVariables false
set_option linter.unusedSimpArgs false
namespace Go.Proofs.Ytdbpgblhnhdhoaa
open Go.RowKit

theorem ext_sqrt (args : Array Value) (w : World) : (callFunc 97 args).run Try.prog w = ((Extern.MathSqrt.sqrt args).run Try.prog w).andThen fun v w' => .ok (.value v) w' :=
  run_callFunc_extern Try.func97 (by kernel_rfl) (by kernel_rfl) (by kernel_rfl) (by kernel_rfl) args w
theorem ext_rte (args : Array Value) (w : World) : (callFunc 90 args).run Try.prog w = ((Extern.MathFloor.toIntegral "math.RoundToEven" .even args).run Try.prog w).andThen fun v w' => .ok (.value v) w' :=
  run_callFunc_extern Try.func90 (by kernel_rfl) (by kernel_rfl) (by kernel_rfl) (by kernel_rfl) args w
theorem ext_trunc (args : Array Value) (w : World) : (callFunc 88 args).run Try.prog w = ((Extern.MathFloor.toIntegral "math.archTrunc" .zero args).run Try.prog w).andThen fun v w' => .ok (.value v) w' :=
  run_callFunc_extern Try.func88 (by kernel_rfl) (by kernel_rfl) (by kernel_rfl) (by kernel_rfl) args w
theorem ext_bits (args : Array Value) (w : World) : (callFunc 87 args).run Try.prog w = ((Extern.MathFloatBits.float64bits args).run Try.prog w).andThen fun v w' => .ok (.value v) w' :=
  run_callFunc_extern Try.func87 (by kernel_rfl) (by kernel_rfl) (by kernel_rfl) (by kernel_rfl) args w
theorem ext_frombits (args : Array Value) (w : World) : (callFunc 86 args).run Try.prog w = ((Extern.MathFloatBits.float64frombits args).run Try.prog w).andThen fun v w' => .ok (.value v) w' :=
  run_callFunc_extern Try.func86 (by kernel_rfl) (by kernel_rfl) (by kernel_rfl) (by kernel_rfl) args w
theorem some_f32 : (Try.prog.underlying 25).isSome = true := by rw [Try.underlying25, Option.isSome_some]
theorem some_f64 : (Try.prog.underlying 93).isSome = true := by rw [Try.underlying93, Option.isSome_some]
end Go.Proofs.Ytdbpgblhnhdhoaa
