/- The contract of the check of a string without bytes. -/
import Derived.Test.YthkdojmamejkaaaDoorN
import Derived.Test.YthkdojmamejkaaaDoorProg
import Derived.WalkKit
import Derived.WalkLawsBesides
import Derived.WalkSpells
import Derived.Deep.QuietTactic
import Derived.BigQuiet
import Derived.Deep.LoopGhost
import Derived.Deep.DeepFit
import Derived.Deep.DeepMust
import Derived.Lib.Hide
import Derived.Handy
import Derived.Deep.Light
import Derived.Laws.CopyOwn
import Derived.Deep.DeepCutAuto
import Derived.Deep.CutBlock
import Derived.Outline
set_option linter.unusedVariables false
set_option linter.unusedSimpArgs false
namespace Go.Proofs.YthkdojmamejkaaaDoor
open Go.RowKit
theorem c_wide (w : World) :
    Calls Tryd.prog 187 #[.int .i64 2] w fun e w' => e = .returned (.int .i64 0) ∧ w = w' := by
  go_enter Tryd.func187, Tryd.ntmps187
  go_wp2
  go_ret
  exact ⟨rfl, rfl⟩
theorem run_mk23 (w : World) : (Instr.makeSlice 23 (.int .i64 2) (.int .i64 2)).run Tryd.prog w = .ok (.slice (some ⟨w.heap.size, 0, none⟩) 2 2) (w.alloc (.cells #[.int .u8 0, .int .u8 0] 5)) := by kernel_rfl
theorem c_Number (w : World) (hT : w.cell? ⟨3, 2, none⟩ = some (.int .u64 65535)) :
    Calls Tryd.prog 188 #[.int .u64 0, .int .i64 2] w fun e w' => e = .returned (.tuple #[.slice (some ⟨w.heap.size, 0, none⟩) 2 2, .int .i64 0]) ∧ w' = w.alloc (.cells #[.int .u8 0, .int .u8 0] 5) := by
  have hmk := run_mk23
  go_enter Tryd.func188, Tryd.ntmps188
  go_wp2_with (go_at_call 187; refine (c_wide _).mono ?_; rintro e w1 ⟨rfl, rfl⟩)
  go_rounds 3
  go_ret2
  exact ⟨rfl, rfl⟩
theorem c_String (w : World) (hT : w.cell? ⟨3, 2, none⟩ = some (.int .u64 65535)) :
    Calls Tryd.prog 127 #[.slice none 0 0, .int .i64 2] w fun e w' => e = .returned (.tuple #[.slice (some ⟨w.heap.size, 0, none⟩) 2 2, .int .i64 0]) ∧ Below w.heap.size w w' := by
  go_enter Tryd.func127, Tryd.ntmps127
  go_wp2_with (first | (go_at_call 187; refine (c_wide _).mono ?_; rintro e w1 ⟨rfl, rfl⟩) | (go_at_call 188; refine (c_Number _ hT).mono ?_; rintro e w1 ⟨rfl, rfl⟩))
  go_ret2
  exact ⟨rfl, below_alloc _ _⟩
theorem c_alive08 (w : World) (hT : w.cell? ⟨3, 2, none⟩ = some (.int .u64 65535)) :
    Calls Tryd.prog 33 #[] w fun e w' => e = .returned (.bool true) ∧ Below w.heap.size w w' := by
  go_enter Tryd.func33, Tryd.ntmps33
  go_wp2_with (fail)
  refine (c_String w hT).mono ?_
  rintro e w1 ⟨rfl, hb1⟩
  have hb2 := hb1.alloc hb1.size (.cells #[.int .u8 1] 5)
  go_wp2_with (fail)
  refine (c_sRun 0 _ 1 1 [1] _ (by omega) (rdI_one w1 _ _ 1) (bits_one 1 (by omega)) (by omega)).mono ?_
  rw [show ((cntOf 0).run [1]).num = 97 by decide +kernel]
  rintro e w2 ⟨rfl, hb3⟩
  have hb4 := below_step hb2 hb3
  clear hb1 hb2 hb3
  go_wp2_with (fail)
  go_ret
  exact ⟨rfl, hb4⟩
end Go.Proofs.YthkdojmamejkaaaDoor
