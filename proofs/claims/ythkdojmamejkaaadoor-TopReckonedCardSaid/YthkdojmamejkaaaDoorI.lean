/- Contracts of the check of counts. -/
import Derived.Test.YthkdojmamejkaaaDoorE
import Derived.Test.YthkdojmamejkaaaDoorProg
import Derived.WalkKit
import Derived.WalkLawsBesides
import Derived.WalkSpells
import Derived.Deep.QuietTactic
import Derived.BigQuiet
import Derived.Deep.LoopGhost
import Derived.Deep.DeepFit
import Derived.Deep.DeepMust
import Derived.Lib.Hide
import Derived.Handy
import Derived.Deep.Light
import Derived.Laws.CopyOwn
import Derived.Deep.DeepCutAuto
import Derived.Deep.CutBlock
import Derived.Outline
set_option linter.unusedVariables false
set_option linter.unusedSimpArgs false
namespace Go.Proofs.YthkdojmamejkaaaDoor
open Go.RowKit
/-! ### counts -/
structure Cnt where
  a : Int
  b : Int
  l : Int
def Cnt.val (c : Cnt) : Value := .agg #[.int .i32 c.a, .int .i32 c.b, .int .u8 c.l]
def Cnt.Ok (c : Cnt) : Prop := (c.a = 0 ∧ c.b = 0 ∧ c.l = 0) ∨ (c.l = 0 ∧ 1 ≤ c.a ∧ c.a ≤ 12 ∧ 0 ≤ c.b ∧ c.b ≤ 7) ∨ (c.l = 1 ∧ 1 ≤ c.b ∧ c.b ≤ 12 ∧ 0 ≤ c.a ∧ c.a ≤ 7)
def Cnt.In (c : Cnt) : Prop := (-2147483648 ≤ c.a ∧ c.a ≤ 2147483647) ∧ (-2147483648 ≤ c.b ∧ c.b ≤ 2147483647) ∧ 0 ≤ c.l ∧ c.l ≤ 255
theorem Cnt.Ok.in_ {c : Cnt} (h : c.Ok) : c.In := by unfold Cnt.Ok at h; unfold Cnt.In; omega
def hv (x : Int) : Int := if 2 < x then x / 2 + 1 else x
def Cnt.aft (c : Cnt) (t : Int) : Cnt := if t = 0 then ⟨min (c.a + 1) 12, hv c.b, 0⟩ else ⟨hv c.a, min (c.b + 1) 12, 1⟩
theorem Cnt.Ok.aft {c : Cnt} (h : c.Ok) (t : Int) : (c.aft t).Ok := by
  unfold Cnt.aft
  split
  · unfold Cnt.Ok at *; dsimp only; unfold hv; omega
  · unfold Cnt.Ok at *; dsimp only; unfold hv; omega
theorem c_cCheck (c : Cnt) (w : World) (h : c.Ok) :
    Calls Tryd.prog 59 #[.agg #[.int .i32 c.a, .int .i32 c.b, .int .u8 c.l]] w fun e w' => e = .returned (.int .i64 0) ∧ Below w.heap.size w w' := by
  obtain ⟨a, b, l⟩ := c
  have hi := h.in_
  unfold Cnt.In at hi
  unfold Cnt.Ok at h
  dsimp only at *
  rcases h with ⟨rfl, rfl, rfl⟩ | ⟨rfl, h⟩ | ⟨rfl, h⟩
  all_goals
    go_enter Tryd.func59, Tryd.ntmps59
    go_wp2
    all_goals first | go_quiet (fail) | skip
    all_goals go_wp2
    all_goals first | (exfalso; omega) | skip
    all_goals go_ret
    all_goals refine ⟨rfl, ?_⟩
    all_goals ((try refine below_drewN' ?_ _); go_grown)
theorem c_cCheck_no (c : Cnt) (w : World) (hi : c.In) (h : ¬ c.Ok) :
    Calls Tryd.prog 59 #[.agg #[.int .i32 c.a, .int .i32 c.b, .int .u8 c.l]] w fun e w' => e = .returned (.int .i64 8) ∧ Below w.heap.size w w' := by
  obtain ⟨a, b, l⟩ := c
  unfold Cnt.In at hi
  unfold Cnt.Ok at h
  dsimp only at *
  by_cases h0 : l = 0
  · subst h0
    have h1 : ¬ (a = 0 ∧ b = 0) ∧ ¬ (1 ≤ a ∧ a ≤ 12 ∧ 0 ≤ b ∧ b ≤ 7) := by omega
    clear h
    go_enter Tryd.func59, Tryd.ntmps59
    go_wp2
    all_goals first | go_quiet (fail) | skip
    all_goals go_wp2
    all_goals first | (exfalso; omega) | skip
    all_goals go_ret
    all_goals refine ⟨rfl, ?_⟩
    all_goals ((try refine below_drewN' ?_ _); go_grown)
  · by_cases h1 : l = 1
    · subst h1
      have h1 : ¬ (1 ≤ b ∧ b ≤ 12 ∧ 0 ≤ a ∧ a ≤ 7) := by omega
      clear h
      go_enter Tryd.func59, Tryd.ntmps59
      go_wp2
      all_goals first | go_quiet (fail) | skip
      all_goals go_wp2
      all_goals first | (exfalso; omega) | skip
      all_goals go_ret
      all_goals refine ⟨rfl, ?_⟩
      all_goals ((try refine below_drewN' ?_ _); go_grown)
    · go_enter Tryd.func59, Tryd.ntmps59
      go_wp2
      all_goals first | go_quiet (fail) | skip
      all_goals go_wp2
      all_goals first | (exfalso; omega) | skip
      all_goals go_ret
      all_goals refine ⟨rfl, ?_⟩
      all_goals ((try refine below_drewN' ?_ _); go_grown)
end Go.Proofs.YthkdojmamejkaaaDoor
