/- Contracts of the count after a bit. -/
import Derived.Test.YthkdojmamejkaaaDoorI
import Derived.Test.YthkdojmamejkaaaDoorProg
import Derived.WalkKit
import Derived.WalkLawsBesides
import Derived.WalkSpells
import Derived.Deep.QuietTactic
import Derived.BigQuiet
import Derived.Deep.LoopGhost
import Derived.Deep.DeepFit
import Derived.Deep.DeepMust
import Derived.Lib.Hide
import Derived.Handy
import Derived.Deep.Light
import Derived.Laws.CopyOwn
import Derived.Deep.DeepCutAuto
import Derived.Deep.CutBlock
import Derived.Outline
set_option linter.unusedVariables false
set_option linter.unusedSimpArgs false
namespace Go.Proofs.YthkdojmamejkaaaDoor
open Go.RowKit
theorem ret_cnt {a b l a' b' l' : Int} (h : a = a') (h' : b = b') (h'' : l = l') : Ending.returned (.agg #[.int .i32 a, .int .i32 b, .int .u8 l]) = Ending.returned (.agg #[.int .i32 a', .int .i32 b', .int .u8 l']) := by rw [h, h', h'']
theorem c_after60 (c : Cnt) (t : Int) (w : World) (h : c.Ok) (ht : t = 0 ∨ t = 1) :
    Calls Tryd.prog 62 #[.agg #[.int .i32 c.a, .int .i32 c.b, .int .u8 c.l], .int .u8 t] w fun e w' => e = .returned (.agg #[.int .i32 (c.aft t).a, .int .i32 (c.aft t).b, .int .u8 (c.aft t).l]) ∧ Below w.heap.size w w' := by
  obtain ⟨a, b, l⟩ := c
  have hi := h.in_
  unfold Cnt.In at hi
  unfold Cnt.Ok at h
  unfold Cnt.aft
  dsimp only at *
  have h2 : (-100 ≤ a ∧ a ≤ 100) ∧ (-100 ≤ b ∧ b ≤ 100) ∧ (0 ≤ l ∧ l ≤ 1) := by omega
  clear h hi
  rcases ht with rfl | rfl
  · rw [if_pos rfl]
    dsimp only
    go_enter Tryd.func62, Tryd.ntmps62
    go_wp2
    all_goals go_returns
    all_goals refine ⟨?_, by ((try refine below_drewN' ?_ _); go_grown)⟩
    all_goals go_light
    all_goals exact ret_cnt (by (try unfold hv); omega) (by (try unfold hv); omega) rfl
  · rw [if_neg (by omega)]
    dsimp only
    go_enter Tryd.func62, Tryd.ntmps62
    go_wp2
    all_goals go_returns
    all_goals refine ⟨?_, by ((try refine below_drewN' ?_ _); go_grown)⟩
    all_goals go_light
    all_goals exact ret_cnt (by (try unfold hv); omega) (by (try unfold hv); omega) rfl
theorem c_cnext (c : Cnt) (t : Int) (w : World) (h : c.Ok) (ht : t = 0 ∨ t = 1) :
    Calls Tryd.prog 143 #[.agg #[.int .i32 c.a, .int .i32 c.b, .int .u8 c.l], .int .u8 t] w fun e w' => e = .returned (.agg #[.int .i32 (c.aft t).a, .int .i32 (c.aft t).b, .int .u8 (c.aft t).l]) ∧ Below w.heap.size w w' := by
  obtain ⟨a, b, l⟩ := c
  have hi := h.in_
  unfold Cnt.In at hi
  unfold Cnt.Ok at h
  unfold Cnt.aft
  dsimp only at *
  have h2 : (-100 ≤ a ∧ a ≤ 100) ∧ (-100 ≤ b ∧ b ≤ 100) ∧ (0 ≤ l ∧ l ≤ 1) := by omega
  clear h hi
  rcases ht with rfl | rfl
  · rw [if_pos rfl]
    dsimp only
    go_enter Tryd.func143, Tryd.ntmps143
    go_wp2
    all_goals go_returns
    all_goals refine ⟨?_, by ((try refine below_drewN' ?_ _); go_grown)⟩
    all_goals go_light
    all_goals exact ret_cnt (by (try unfold hv); omega) (by (try unfold hv); omega) rfl
  · rw [if_neg (by omega)]
    dsimp only
    go_enter Tryd.func143, Tryd.ntmps143
    go_wp2
    all_goals go_returns
    all_goals refine ⟨?_, by ((try refine below_drewN' ?_ _); go_grown)⟩
    all_goals go_light
    all_goals exact ret_cnt (by (try unfold hv); omega) (by (try unfold hv); omega) rfl
end Go.Proofs.YthkdojmamejkaaaDoor
