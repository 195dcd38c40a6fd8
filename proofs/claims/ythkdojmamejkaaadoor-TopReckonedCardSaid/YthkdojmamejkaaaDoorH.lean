/- The contract of the row of squashing. -/
import Derived.Test.YthkdojmamejkaaaDoorD
import Derived.Test.YthkdojmamejkaaaDoorProg
import Derived.WalkKit
import Derived.WalkLawsBesides
import Derived.WalkSpells
import Derived.Deep.QuietTactic
import Derived.BigQuiet
import Derived.Deep.LoopGhost
import Derived.Deep.DeepFit
import Derived.Deep.DeepMust
import Derived.Lib.Hide
import Derived.Handy
import Derived.Deep.Light
import Derived.Laws.CopyOwn
import Derived.Deep.DeepCutAuto
import Derived.Deep.CutBlock
import Derived.Outline
set_option linter.unusedVariables false
set_option linter.unusedSimpArgs false
namespace Go.Proofs.YthkdojmamejkaaaDoor
open Go.RowKit
def rowArr (k : Nat) : Array Value := ((List.range 33).map fun j => Value.int .i32 (if j < k then rowAt j else 0)).toArray
theorem rowArr_at (k j : Nat) (h : j < 33) : (rowArr k)[j]? = some (.int .i32 (if j < k then rowAt j else 0)) := by
  simp [rowArr, h]
theorem rowArr_out (k j : Nat) (h : ¬ j < 33) : (rowArr k)[j]? = none := by
  simp [rowArr]; omega
theorem rowArr_put (k : Nat) (h : k < 33) : (rowArr k).setIfInBounds k (.int .i32 (rowAt k)) = rowArr (k + 1) := by
  apply Array.ext_getElem?
  intro j
  by_cases hj : j < 33
  · rw [Array.getElem?_setIfInBounds, rowArr_at k j hj, rowArr_at (k + 1) j hj]
    by_cases e : k = j
    · subst e
      rw [if_pos rfl, if_pos (by simpa [rowArr] using h), if_pos (by omega)]
    · rw [if_neg e]
      by_cases hl : j < k
      · rw [if_pos hl, if_pos (by omega)]
      · rw [if_neg hl, if_neg (by omega)]
  · rw [Array.getElem?_setIfInBounds, rowArr_out k j hj, rowArr_out (k + 1) j hj, if_neg (by omega)]
theorem rowArr_zero : (#[.int .i32 0, .int .i32 0, .int .i32 0, .int .i32 0, .int .i32 0, .int .i32 0, .int .i32 0, .int .i32 0, .int .i32 0, .int .i32 0, .int .i32 0, .int .i32 0, .int .i32 0, .int .i32 0, .int .i32 0, .int .i32 0, .int .i32 0, .int .i32 0, .int .i32 0, .int .i32 0, .int .i32 0, .int .i32 0, .int .i32 0, .int .i32 0, .int .i32 0, .int .i32 0, .int .i32 0, .int .i32 0, .int .i32 0, .int .i32 0, .int .i32 0, .int .i32 0, .int .i32 0] : Array Value) = rowArr 0 := rfl
theorem c_Row (w : World) (hR : RowIs 1 .i32 w) :
    Calls Tryd.prog 20 #[] w fun e w' => e = .returned (.agg (rowArr 33)) ∧ Below w.heap.size w w' := by
  have hz : 1 < w.heap.size := World.block_lt_of_cell? w _ (hR 0 (by omega))
  have HZ := Lib.hid rowArr_zero
  go_enter Tryd.func20, Tryd.ntmps20
  go_wp2_with (fail)
  rw [HZ.out]
  go_loopw [3] (fun i wr => ∃ k : Nat, k ≤ 33 ∧ i = .int .i64 k ∧ Bk wr w.heap.size 34 (rowArr 0) ∧ Bk wr (w.heap.size + 1) 34 (rowArr k) ∧ Below w.heap.size w wr) (fun i _ => 33 - (intOf i).toNat)
  case atStart =>
    refine ⟨0, by omega, rfl, (Bk.new w 34 _).old _, ?_, (below_alloc w _).alloc (by simp) _⟩
    have := Bk.new (w.alloc (.cells (rowArr 0) 34)) 34 (rowArr 0)
    simpa using this
  case round =>
    obtain ⟨k, hk, rfl, h0, h1, hb⟩ := hrel
    by_cases hlt : k < 33
    · have hc := below_cell hb (hR k hlt)
      have hd := h1.cell k
      rw [rowArr_at k k hlt] at hd
      have hf := h1.free k
      have hu := h1.put k (.int .i32 (rowAt k))
      rw [rowArr_put k hlt] at hu
      have h0' := h0.away ⟨w.heap.size + 1, k, none⟩ (.int .i32 (rowAt k)) (by simp)
      have hb' := hb.setCell (p := ⟨w.heap.size + 1, k, none⟩) (by simp) (.int .i32 (rowAt k))
      have hk33 : (k : Int) < 33 := by omega
      clear hR h0 h1 hb
      generalize rowAt k = v at *
      go_wp2_with (fail)
      go_roundw
      case rel => exact ⟨k + 1, by omega, by go_num, h0', hu, hb'⟩
      case measure => simp [intOf]; omega
    · obtain rfl : k = 33 := by omega
      go_wp2_with (first
        | (refine wpList_load_row rfl 34 _ rfl (w.heap.size + 1) rfl 34 (rowArr 33) (0, 0) _ h1 Tryd.underlying34 rfl (by kernel_rfl) ?_)
        | (refine wpList_store_row rfl 34 _ _ rfl w.heap.size (rowArr 33) rfl rfl 34 (rowArr 0) h0 (by kernel_rfl) rfl (by kernel_rfl) ?_))
      have hs : Bk (wr.setRow w.heap.size (rowArr 33)) w.heap.size 34 (rowArr 33) := setRow_heap wr _ _ _ 34 _ h0
      exact bodyPost_ret (v := .agg (rowArr 33)) (results_cell_row rfl _ _ w.heap.size 34 _ (0, 0) _ rfl hs Tryd.underlying34 rfl (by kernel_rfl)) rfl ⟨rfl, below_setRow hb (Nat.le_refl _) _⟩
end Go.Proofs.YthkdojmamejkaaaDoor
