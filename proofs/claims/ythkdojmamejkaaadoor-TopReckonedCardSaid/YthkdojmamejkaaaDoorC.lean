/- Contracts of squashing, for every argument. -/
import Derived.Test.YthkdojmamejkaaaDoorA
import Derived.Test.YthkdojmamejkaaaDoorProg
import Derived.WalkKit
import Derived.WalkLawsBesides
import Derived.WalkSpells
import Derived.Deep.QuietTactic
import Derived.BigQuiet
import Derived.Deep.LoopGhost
import Derived.Deep.DeepFit
import Derived.Deep.DeepMust
import Derived.Lib.Hide
import Derived.Handy
import Derived.Deep.Light
import Derived.Laws.CopyOwn
import Derived.Deep.DeepCutAuto
import Derived.Deep.CutBlock
import Derived.Outline
set_option linter.unusedVariables false
set_option linter.unusedSimpArgs false
namespace Go.Proofs.YthkdojmamejkaaaDoor
open Go.RowKit
theorem i32_and127 (n : Int) : bits .and .i32 n 127 = n % 128 := by
  have h127 : (BitVec.ofInt 32 127).toNat = 2 ^ 7 - 1 := by decide
  have key : (BitVec.ofInt 32 n &&& BitVec.ofInt 32 127).toNat = (n % ((2 ^ 32 : Nat) : Int)).toNat % 2 ^ 7 := by
    rw [BitVec.toNat_and, BitVec.toNat_ofInt, h127, Nat.and_two_pow_sub_one_eq_mod]
  show IntKind.i32.wrap ((BitVec.ofInt 32 n &&& BitVec.ofInt 32 127).toNat : Nat) = n % 128
  rw [key, IntKind.wrap_i32]
  omega
def rowL : List Int := [1, 2, 3, 6, 10, 16, 27, 45, 73, 120, 194, 310, 488, 747, 1101, 1546, 2047, 2549, 2994, 3348, 3607, 3785, 3901, 3975, 4022, 4050, 4068, 4079, 4085, 4089, 4092, 4093, 4094]
def rowAt (i : Nat) : Int := rowL.getD i 0
def RowIs (g : Nat) (k : IntKind) (w : World) : Prop := ∀ j : Nat, j < 33 → w.cell? ⟨g, j, none⟩ = some (.int k (rowAt j))
theorem rowAt_rg' : ∀ i : Fin 33, 1 ≤ rowAt i.val ∧ rowAt i.val ≤ 4094 := by decide +kernel
theorem rowAt_rg (i : Nat) (h : i < 33) : 1 ≤ rowAt i ∧ rowAt i ≤ 4094 := rowAt_rg' ⟨i, h⟩
/-- A number, squashed. -/
def sq (d : Int) : Int :=
  if 2047 < d then 4095 else if d < -2047 then 0
  else (rowAt (d / 128 + 16).toNat * (128 - d % 128) + rowAt (d / 128 + 17).toNat * (d % 128) + 64) / 128
theorem c_Squash (d : Int) (w : World) (h : -2047 ≤ d ∧ d ≤ 2047) (hR : RowIs 1 .i32 w) :
    Calls Tryd.prog 16 #[.int .i32 d] w fun e w' => e = .returned (.int .i32 (sq d)) ∧ ∃ nq, w' = w.drewN nq := by
  obtain ⟨i, hi⟩ : ∃ i : Nat, d / 128 + 16 = (i : Int) := ⟨(d / 128 + 16).toNat, by omega⟩
  have c1 := hR i (by omega)
  have c2 := hR (i + 1) (by omega)
  have r1 := rowAt_rg i (by omega)
  have r2 := rowAt_rg (i+1) (by omega)
  have HS : Hid (sq d = (rowAt i * (128 - d % 128) + rowAt (i + 1) * (d % 128) + 64) / 128) := by
    unfold sq
    rw [if_neg (by omega), if_neg (by omega), show (d / 128 + 17).toNat = i + 1 by omega, hi]; rfl
  have hm := i32_and127 d
  have hi1 : (i : Int) < 33 := by omega
  have hi2 : (i : Int) + 1 < 33 := by omega
  have hiw : IntKind.i32.wrap ((i : Int) + 1) = (i : Int) + 1 := by rw [IntKind.wrap_i32]; omega
  clear hR
  obtain ⟨a, ha⟩ : ∃ a, a = rowAt i := ⟨_, rfl⟩
  obtain ⟨b, hb⟩ : ∃ b, b = rowAt (i+1) := ⟨_, rfl⟩
  rw [← ha] at c1 r1
  rw [← hb] at c2 r2
  have HA := Lib.hid ha
  have HB := Lib.hid hb
  clear ha hb
  go_enter Tryd.func16, Tryd.ntmps16
  go_wp2_with (fail)
  go_quiet (fail)
  go_wp2
  go_ret
  refine ⟨ret_int ?_, _, rfl⟩
  have hb1 := mulr_rg (b - a) (d % 128) (-4094) 4094 127 (by omega) (by omega) (by omega)
  have hb2 : (b - a) * (d % 128) = b * (d % 128) - a * (d % 128) := Int.sub_mul _ _ _
  have hb3 : a * (128 - d % 128) = a * 128 - a * (d % 128) := Int.mul_sub _ _ _
  rw [HS.out, ← HA.out, ← HB.out, hb3]
  simp only [wrap32]
  omega
theorem c_Squash_hi (d : Int) (w : World) (h : 2047 < d ∧ d ≤ 2147483647) :
    Calls Tryd.prog 16 #[.int .i32 d] w fun e w' => e = .returned (.int .i32 (sq d)) ∧ ∃ nq, w' = w.drewN nq := by
  have HS : Hid (sq d = 4095) := by unfold sq; rw [if_pos (by omega)]; exact rfl
  go_enter Tryd.func16, Tryd.ntmps16
  go_wp2_with (fail)
  go_ret
  exact ⟨ret_int HS.out.symm, 0, rfl⟩
theorem c_Squash_lo (d : Int) (w : World) (h : d < -2047 ∧ -2147483648 ≤ d) :
    Calls Tryd.prog 16 #[.int .i32 d] w fun e w' => e = .returned (.int .i32 (sq d)) ∧ ∃ nq, w' = w.drewN nq := by
  have HS : Hid (sq d = 0) := by unfold sq; rw [if_neg (by omega), if_pos (by omega)]; exact rfl
  go_enter Tryd.func16, Tryd.ntmps16
  go_wp2_with (fail)
  go_ret
  exact ⟨ret_int HS.out.symm, 0, rfl⟩
theorem c_Squash_any (d : Int) (w : World) (h : -2147483648 ≤ d ∧ d ≤ 2147483647) (hR : RowIs 1 .i32 w) :
    Calls Tryd.prog 16 #[.int .i32 d] w fun e w' => e = .returned (.int .i32 (sq d)) ∧ ∃ nq, w' = w.drewN nq := by
  by_cases h1 : 2047 < d
  · exact c_Squash_hi d w (by omega)
  · by_cases h2 : d < -2047
    · exact c_Squash_lo d w (by omega)
    · exact c_Squash d w (by omega) hR
theorem c_squashed60 (d : Int) (w : World) (h : -2047 ≤ d ∧ d ≤ 2047) (hR : RowIs 0 .i64 w) :
    Calls Tryd.prog 17 #[.int .i64 d] w fun e w' => e = .returned (.int .i64 (sq d)) ∧ ∃ nq, w' = w.drewN nq := by
  obtain ⟨i, hi⟩ : ∃ i : Nat, d / 128 + 16 = (i : Int) := ⟨(d / 128 + 16).toNat, by omega⟩
  have c1 := hR i (by omega)
  have c2 := hR (i + 1) (by omega)
  have r1 := rowAt_rg i (by omega)
  have r2 := rowAt_rg (i+1) (by omega)
  have HS : Hid (sq d = (rowAt i * (128 - d % 128) + rowAt (i + 1) * (d % 128) + 64) / 128) := by
    unfold sq
    rw [if_neg (by omega), if_neg (by omega), show (d / 128 + 17).toNat = i + 1 by omega, hi]; rfl
  have hm : d - 128 * (d / 128) = d % 128 := by omega
  have hi1 : (i : Int) < 33 := by omega
  have hi2 : (i : Int) + 1 < 33 := by omega
  have hj : IntKind.i64.wrap (d / 128 + 16) = (i : Int) := by rw [IntKind.wrap_i64]; omega
  have hj : IntKind.i64.wrap (d / 128 + 17) = (i : Int) + 1 := by rw [IntKind.wrap_i64]; omega
  have hj : IntKind.i64.wrap (128 - d % 128) = 128 - d % 128 := by rw [IntKind.wrap_i64]; omega
  clear hR
  obtain ⟨a, ha⟩ : ∃ a, a = rowAt i := ⟨_, rfl⟩
  obtain ⟨b, hb⟩ : ∃ b, b = rowAt (i+1) := ⟨_, rfl⟩
  rw [← ha] at c1 r1
  rw [← hb] at c2 r2
  have HA := Lib.hid ha
  have HB := Lib.hid hb
  clear ha hb
  go_enter Tryd.func17, Tryd.ntmps17
  go_wp2_with (go_at_call 24; refine (c_floor60 _ _ _ (by omega) (by omega)).mono ?_; rintro e w' ⟨rfl, rfl⟩)
  go_quiet (fail)
  go_wp2
  go_ret
  refine ⟨ret_int ?_, _, rfl⟩
  have hb1 := mulr_rg a (128 - d % 128) 0 4094 128 (by omega) (by omega) (by omega)
  have hb2 := mulr_rg b (d % 128) 0 4094 128 (by omega) (by omega) (by omega)
  rw [HS.out, ← HA.out, ← HB.out]
  simp (disch := omega) only [IntWalk.wrap64_in, Int.tdiv_eq_ediv_of_nonneg]
theorem sq_rg (d : Int) : 0 ≤ sq d ∧ sq d ≤ 4095 := by
  unfold sq
  split
  · omega
  · split
    · omega
    · rename_i h1 h2
      have r1 := rowAt_rg (d / 128 + 16).toNat (by omega)
      have r2 := rowAt_rg (d / 128 + 17).toNat (by omega)
      have hb1 := mulr_rg (rowAt (d / 128 + 16).toNat) (128 - d % 128) 0 4094 128 (by omega) (by omega) (by omega)
      have hb2 := mulr_rg (rowAt (d / 128 + 17).toNat) (d % 128) 0 4094 128 (by omega) (by omega) (by omega)
      have hb3 : rowAt (d / 128 + 16).toNat * (128 - d % 128) ≤ 4094 * (128 - d % 128) := Int.mul_le_mul_of_nonneg_right r1.2 (by omega)
      have hb4 : rowAt (d / 128 + 17).toNat * (d % 128) ≤ 4094 * (d % 128) := Int.mul_le_mul_of_nonneg_right r2.2 (by omega)
      omega
theorem c_squashed60_hi (d : Int) (w : World) (h : 2047 < d ∧ d ≤ 9223372036854775807) :
    Calls Tryd.prog 17 #[.int .i64 d] w fun e w' => e = .returned (.int .i64 (sq d)) ∧ ∃ nq, w' = w.drewN nq := by
  have HS : Hid (sq d = 4095) := by unfold sq; rw [if_pos (by omega)]; exact rfl
  go_enter Tryd.func17, Tryd.ntmps17
  go_wp2_with (fail)
  go_ret
  exact ⟨ret_int HS.out.symm, 0, rfl⟩
theorem c_squashed60_lo (d : Int) (w : World) (h : d < -2047 ∧ -9223372036854775808 ≤ d) :
    Calls Tryd.prog 17 #[.int .i64 d] w fun e w' => e = .returned (.int .i64 (sq d)) ∧ ∃ nq, w' = w.drewN nq := by
  have HS : Hid (sq d = 0) := by unfold sq; rw [if_neg (by omega), if_pos (by omega)]; exact rfl
  go_enter Tryd.func17, Tryd.ntmps17
  go_wp2_with (fail)
  go_ret
  exact ⟨ret_int HS.out.symm, 0, rfl⟩
theorem c_squashed60_any (d : Int) (w : World) (h : -9223372036854775808 ≤ d ∧ d ≤ 9223372036854775807) (hR : RowIs 0 .i64 w) :
    Calls Tryd.prog 17 #[.int .i64 d] w fun e w' => e = .returned (.int .i64 (sq d)) ∧ ∃ nq, w' = w.drewN nq := by
  by_cases h1 : 2047 < d
  · exact c_squashed60_hi d w (by omega)
  · by_cases h2 : d < -2047
    · exact c_squashed60_lo d w (by omega)
    · exact c_squashed60 d w (by omega) hR
end Go.Proofs.YthkdojmamejkaaaDoor
