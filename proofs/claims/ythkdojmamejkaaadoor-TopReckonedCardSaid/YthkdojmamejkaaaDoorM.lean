/- Contracts of states and counts. -/
import Derived.Test.YthkdojmamejkaaaDoorI
import Derived.Test.YthkdojmamejkaaaDoorProg
import Derived.WalkKit
import Derived.WalkLawsBesides
import Derived.WalkSpells
import Derived.Deep.QuietTactic
import Derived.BigQuiet
import Derived.Deep.LoopGhost
import Derived.Deep.DeepFit
import Derived.Deep.DeepMust
import Derived.Lib.Hide
import Derived.Handy
import Derived.Deep.Light
import Derived.Laws.CopyOwn
import Derived.Deep.DeepCutAuto
import Derived.Deep.CutBlock
import Derived.Outline
set_option linter.unusedVariables false
set_option linter.unusedSimpArgs false
namespace Go.Proofs.YthkdojmamejkaaaDoor
open Go.RowKit
/-- The count of a state, and the state of a count. -/
def cntOf (s : Int) : Cnt := if s = 0 then ⟨0, 0, 0⟩ else if (s - 1) / 8 / 12 = 0 then ⟨(s - 1) / 8 % 12 + 1, (s - 1) % 8, 0⟩ else ⟨(s - 1) % 8, (s - 1) / 8 % 12 + 1, 1⟩
theorem cntOf_ok (s : Int) (h : 0 ≤ s ∧ s < 193) : (cntOf s).Ok := by
  unfold cntOf
  split
  · left; simp
  · split
    · right; left; dsimp only; omega
    · right; right; dsimp only; omega
def Cnt.num (c : Cnt) : Int := if c.a = 0 ∧ c.b = 0 then 0 else if c.l = 0 then (c.a - 1) * 8 + c.b + 1 else (12 + c.b - 1) * 8 + c.a + 1
theorem Cnt.Ok.num {c : Cnt} (h : c.Ok) : 0 ≤ c.num ∧ c.num < 193 := by
  unfold Cnt.Ok at h
  unfold Cnt.num
  split
  · omega
  · split <;> omega
theorem cnt_eq {a b l a' b' l' : Int} (h1 : a = a') (h2 : b = b') (h3 : l = l') : (⟨a, b, l⟩ : Cnt) = ⟨a', b', l'⟩ := by rw [h1, h2, h3]
theorem cntOf_num {c : Cnt} (h : c.Ok) : cntOf c.num = c := by
  obtain ⟨a, b, l⟩ := c
  unfold Cnt.Ok at h
  dsimp only at h
  unfold Cnt.num
  dsimp only
  by_cases h0 : a = 0 ∧ b = 0
  · rw [if_pos h0]
    obtain ⟨rfl, rfl⟩ := h0
    obtain rfl : l = 0 := by omega
    rfl
  · rw [if_neg h0]
    by_cases hl : l = 0
    · subst hl
      rw [if_pos rfl]
      unfold cntOf
      rw [if_neg (by omega), if_pos (by omega)]
      exact cnt_eq (by omega) (by omega) rfl
    · obtain rfl : l = 1 := by omega
      rw [if_neg hl]
      unfold cntOf
      rw [if_neg (by omega), if_neg (by omega)]
      exact cnt_eq (by omega) (by omega) rfl
theorem num_cntOf (s : Int) (h : 0 ≤ s ∧ s < 193) : (cntOf s).num = s := by
  unfold cntOf
  split
  · rename_i h0; subst h0; rfl
  · split
    · unfold Cnt.num; dsimp only; rw [if_neg (by omega), if_pos rfl]; omega
    · unfold Cnt.num; dsimp only; rw [if_neg (by omega), if_neg (by omega)]; omega
theorem c_number (c : Cnt) (w : World) (h : c.Ok) :
    Calls Tryd.prog 141 #[.agg #[.int .i32 c.a, .int .i32 c.b, .int .u8 c.l]] w fun e w' => e = .returned (.int .u8 c.num) ∧ Below w.heap.size w w' := by
  obtain ⟨a, b, l⟩ := c
  have hi := h.in_
  have hn := h.num
  unfold Cnt.In at hi
  unfold Cnt.Ok at h
  unfold Cnt.num at *
  dsimp only at *
  have HN := Lib.hid hn
  clear hn
  rcases h with ⟨rfl, rfl, rfl⟩ | ⟨rfl, h⟩ | ⟨rfl, h⟩
  · go_enter Tryd.func141, Tryd.ntmps141
    go_wp2
    go_ret
    refine ⟨rfl, by ((try refine below_drewN' ?_ _); go_grown)⟩
  · rw [if_neg (by omega), if_pos rfl] at *
    go_enter Tryd.func141, Tryd.ntmps141
    go_wp2
    go_quiet (fail)
    go_wp2
    go_ret
    exact ⟨rfl, by ((try refine below_drewN' ?_ _); go_grown)⟩
  · rw [if_neg (by omega), if_neg (by omega)] at *
    go_enter Tryd.func141, Tryd.ntmps141
    go_wp2
    go_quiet (fail)
    go_wp2
    go_ret
    exact ⟨rfl, by ((try refine below_drewN' ?_ _); go_grown)⟩
theorem c_Size (w : World) :
    Calls Tryd.prog 66 #[] w fun e w' => e = .returned (.int .i64 193) ∧ w = w' := by
  go_enter Tryd.func66, Tryd.ntmps66
  go_wp2
  go_ret
  exact ⟨rfl, rfl⟩
theorem c_Count (s : Int) (w : World) (h : 0 ≤ s ∧ s < 193) :
    Calls Tryd.prog 64 #[.int .u8 s] w fun e w' => e = .returned (.tuple #[.agg #[.int .i32 (cntOf s).a, .int .i32 (cntOf s).b, .int .u8 (cntOf s).l], .int .i64 0]) ∧ Below w.heap.size w w' := by
  by_cases h0 : s = 0
  · subst h0
    go_enter Tryd.func64, Tryd.ntmps64
    go_wp2_with (go_at_call 66; refine (c_Size _).mono ?_; rintro e w1 ⟨rfl, rfl⟩)
    go_returns
    exact ⟨rfl, by go_grown⟩
  · by_cases hl : (s - 1) / 8 / 12 = 0
    · have HC : Hid (cntOf s = ⟨(s - 1) / 8 % 12 + 1, (s - 1) % 8, 0⟩) := by unfold cntOf; rw [if_neg h0, if_pos hl]; rfl
      go_enter Tryd.func64, Tryd.ntmps64
      go_wp2_with (go_at_call 66; refine (c_Size _).mono ?_; rintro e w1 ⟨rfl, rfl⟩)
      go_returns
      exact ⟨by rw [HC.out], by go_grown⟩
    · have HC : Hid (cntOf s = ⟨(s - 1) % 8, (s - 1) / 8 % 12 + 1, 1⟩) := by unfold cntOf; rw [if_neg h0, if_neg hl]; rfl
      have hl1 : (s - 1) / 8 / 12 = 1 := by omega
      clear hl
      go_enter Tryd.func64, Tryd.ntmps64
      go_wp2_with (go_at_call 66; refine (c_Size _).mono ?_; rintro e w1 ⟨rfl, rfl⟩)
      go_returns
      exact ⟨by rw [HC.out], by go_grown⟩
theorem c_Count_no (s : Int) (w : World) (h : 193 ≤ s ∧ s ≤ 255) :
    Calls Tryd.prog 64 #[.int .u8 s] w fun e w' => e = .returned (.tuple #[.agg #[.int .i32 0, .int .i32 0, .int .u8 0], .int .i64 2]) ∧ Below w.heap.size w w' := by
  go_enter Tryd.func64, Tryd.ntmps64
  go_wp2_with (go_at_call 66; refine (c_Size _).mono ?_; rintro e w1 ⟨rfl, rfl⟩)
  go_returns
  exact ⟨rfl, by go_grown⟩
end Go.Proofs.YthkdojmamejkaaaDoor
