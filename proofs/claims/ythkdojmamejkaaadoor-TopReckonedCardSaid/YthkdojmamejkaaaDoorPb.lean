/- An index into an array by value. -/
import Derived.Test.YthkdojmamejkaaaDoorPa
import Derived.Test.YthkdojmamejkaaaDoorProg
import Derived.WalkKit
import Derived.WalkLawsBesides
import Derived.WalkSpells
import Derived.Deep.QuietTactic
import Derived.BigQuiet
import Derived.Deep.LoopGhost
import Derived.Deep.DeepFit
import Derived.Deep.DeepMust
import Derived.Lib.Hide
import Derived.Handy
import Derived.Deep.Light
import Derived.Laws.CopyOwn
import Derived.Deep.DeepCutAuto
import Derived.Deep.CutBlock
import Derived.Outline
set_option linter.unusedVariables false
set_option linter.unusedSimpArgs false
namespace Go.Proofs.YthkdojmamejkaaaDoor
open Go.RowKit
theorem run_index_arr (t e : TypeId) (n : Nat) (cs : Array Value) (k : IntKind) (i : Nat) (v : Value) (ek : IntKind) (w : World) (ht : Tryd.prog.underlying t = some (.array n e)) (he : Tryd.prog.underlying e = some (.int ek))
    (hs : (Tryd.prog.info? e).map (·.size) = some 1) (hn : i < n) (hv : cs[i]? = some v) : (Instr.index t (.agg cs) (.int k (i : Int))).run Tryd.prog w = .ok v w := by
  have h1 : (0 ≤ (i : Int) ∧ (i : Int) < (n : Int)) := by omega
  cases hi : Tryd.prog.info? e with
  | none => simp [hi] at hs
  | some info =>
    have hs' : info.size = 1 := by simpa [hi] using hs
    simp [Instr.index, run_underlying ht, asIntOf, h1, part, isAgg, run_underlying he, sizeOf, typeInfo, hi, hs', hv, go_sem]
    intro h
    omega
theorem run_index34 (i : Nat) (w : World) (h : i < 33) : (Instr.index 34 (.agg (rowArr 33)) (.int .i64 (i : Int))).run Tryd.prog w = .ok (.int .i32 (rowAt i)) w := by
  have hv := rowArr_at 33 i h
  rw [if_pos h] at hv
  exact run_index_arr 34 21 33 (rowArr 33) .i64 i _ .i32 w Tryd.underlying34 Tryd.underlying21 (by kernel_rfl) h hv
end Go.Proofs.YthkdojmamejkaaaDoor
