/- The contract of the dot product. -/
import Derived.Test.YthkdojmamejkaaaDoorF
import Derived.Test.YthkdojmamejkaaaDoorProg
import Derived.WalkKit
import Derived.WalkLawsBesides
import Derived.WalkSpells
import Derived.Deep.QuietTactic
import Derived.BigQuiet
import Derived.Deep.LoopGhost
import Derived.Deep.DeepFit
import Derived.Deep.DeepMust
import Derived.Lib.Hide
import Derived.Handy
import Derived.Deep.Light
import Derived.Laws.CopyOwn
import Derived.Deep.DeepCutAuto
import Derived.Deep.CutBlock
import Derived.Outline
set_option linter.unusedVariables false
set_option linter.unusedSimpArgs false
namespace Go.Proofs.YthkdojmamejkaaaDoor
open Go.RowKit
def InI32 (xs : List Int) : Prop := ∀ j, -2147483648 ≤ xs.getD j 0 ∧ xs.getD j 0 ≤ 2147483647
/-- The sum of the products of the first k of two rows. -/
def dotk (xs ys : List Int) : Nat → Int
  | 0 => 0
  | k + 1 => dotk xs ys k + xs.getD k 0 * ys.getD k 0
/-- The sum in two words: hi and, without a sign, lo. -/
def DotIs (xs ys : List Int) (k : Nat) (hi lo : Int) : Prop := hi * 18446744073709551616 + lo = dotk xs ys k ∧ 0 ≤ lo ∧ lo ≤ 18446744073709551615
theorem DotIs.start (xs ys : List Int) : DotIs xs ys 0 0 0 := ⟨rfl, by omega, by omega⟩
theorem dotk_rg (xs ys : List Int) (rx : InI32 xs) (ry : InI32 ys) : ∀ k : Nat, -(4611686018427387904 * (k : Int)) ≤ dotk xs ys k ∧ dotk xs ys k ≤ 4611686018427387904 * k := by
  intro k
  induction k with
  | zero => unfold dotk; omega
  | succ k ih =>
    have := mul_rg _ _ (rx k) (ry k)
    unfold dotk
    omega
theorem DotIs.rg {xs ys : List Int} {k : Nat} {hi lo : Int} (h : DotIs xs ys k hi lo) (rx : InI32 xs) (ry : InI32 ys) (hk : k ≤ 16) : (-5 ≤ hi ∧ hi ≤ 5) ∧ 0 ≤ lo ∧ lo ≤ 18446744073709551615 := by
  have := dotk_rg xs ys rx ry k
  obtain ⟨h1, h2, h3⟩ := h
  omega
theorem c_Dot_many (A B : Option Addr) (n c m d : Nat) (w : World) (hn : n ≤ 140737488355328) (hm : m ≤ 140737488355328) (h : 16 < n ∨ 16 < m) :
    Calls Tryd.prog 15 #[.slice A n c, .slice B m d] w fun e w' => e = .returned (.tuple #[.int .i32 0, .int .i64 4]) ∧ w = w' := by
  go_enter Tryd.func15, Tryd.ntmps15
  go_wp2_with (fail)
  all_goals (go_ret2; exact ⟨rfl, rfl⟩)
theorem c_Dot_ne (A B : Option Addr) (n c m d : Nat) (w : World) (hn : n ≤ 16) (hm : m ≤ 16) (h : n ≠ m) :
    Calls Tryd.prog 15 #[.slice A n c, .slice B m d] w fun e w' => e = .returned (.tuple #[.int .i32 0, .int .i64 2]) ∧ w = w' := by
  go_enter Tryd.func15, Tryd.ntmps15
  go_wp2_with (fail)
  all_goals (go_ret2; exact ⟨rfl, rfl⟩)
theorem run_Add64 (x y : Int) (w : World) (hx : 0 ≤ x) (hy : 0 ≤ y) : (callFunc 122 #[.int .u64 x, .int .u64 y, .int .u64 0]).run Tryd.prog w =
    .ok (.value (.tuple #[.int .u64 ((x + y + 0) % 18446744073709551616), .int .u64 ((x + y + 0) / 18446744073709551616)])) w := by
  rw [run_callFunc_extern (P := Tryd.prog) Tryd.func122 (by kernel_rfl) (by kernel_rfl) (by kernel_rfl) (show Extern.find Tryd.f122 = some add64Entry by kernel_rfl)]
  rw [run_add64 x y 0 hx hy (by omega) (by omega)]
  rfl
set_option maxRecDepth 100000 in
theorem c_Dot (A B : Option Addr) (n c d : Nat) (xs ys : List Int) (w : World) (hn : n ≤ 16) (hx : RdI w .i32 A n xs) (hy : RdI w .i32 B n ys) (rx : InI32 xs) (ry : InI32 ys) :
    Calls Tryd.prog 15 #[.slice A n c, .slice B n d] w fun e w' => e = .returned (.tuple #[.int .i32 (sat (dotk xs ys n)), .int .i64 0]) ∧ ∃ nq, w' = w.drewN nq := by
  go_enter Tryd.func15, Tryd.ntmps15
  go_wp2_with (fail)
  go_loopw [6, 7, 26] (fun vh vl i wr => ∃ (k : Nat) (hi lo : Int), k ≤ n ∧ i = .int .i64 k ∧ vh = .int .i64 hi ∧ vl = .int .u64 lo ∧ DotIs xs ys k hi lo ∧ ∃ nq, wr = w.drewN nq) (fun _ _ i _ => n - (intOf i).toNat)
  case atStart => exact ⟨0, 0, 0, by omega, rfl, rfl, rfl, DotIs.start xs ys, 0, rfl⟩
  case round =>
    obtain ⟨k, hi, lo, hk, rfl, rfl, rfl, hd, nq, rfl⟩ := hrel
    have hb := hd.rg rx ry (by omega)
    have HB := Lib.hid hb.2
    replace hb := hb.1
    have HD := Lib.hid hd
    clear hd
    by_cases hlt : k < n
    · obtain ⟨ad, rfl, hcx⟩ := hx.2.2 k hlt
      obtain ⟨bd, rfl, hcy⟩ := hy.2.2 k hlt
      have rxk := rx k
      have ryk := ry k
      have hp := mul_rg _ _ rxk ryk
      have hsu : dotk xs ys (k + 1) = dotk xs ys k + xs.getD k 0 * ys.getD k 0 := rfl
      have HS := Lib.hid hsu
      clear hsu
      generalize xs.getD k 0 = x at *
      generalize ys.getD k 0 = y at *
      have hlo := HB.out
      have hadd := fun W => run_Add64 lo (IntKind.u64.wrap (x * y)) W hlo.1 (by rw [IntKind.wrap_u64]; omega)
      clear hlo
      go_wp2_with (fail)
      go_roundw
      case rel =>
        refine ⟨k + 1, _, _, by omega, by go_num, rfl, rfl, ⟨?_, ?_⟩, _, rfl⟩
        · go_light
          obtain ⟨h1, h2, h3⟩ := HD.out
          rw [HS.out]
          generalize x * y = p at *
          have h4 : p % 18446744073709551616 = p - (p / 9223372036854775808) * 18446744073709551616 := by omega
          rw [IntKind.wrap_u64, h4, IntWalk.wrap64_in ((lo + _) / _) (by omega), IntWalk.wrap64_in _ (by omega)]
          omega
        · go_light
          omega
      case measure => simp [intOf]; omega
    · obtain rfl : k = n := by omega
      go_wp2_with (go_at_call 9; refine (c_Sat _ _ (by simp only [wrap64]; omega)).mono ?_; rintro e w' ⟨rfl, rfl⟩)
      all_goals go_ret2
      all_goals refine ⟨ret_int2 ?_ rfl, _, rfl⟩
      all_goals (obtain ⟨h1, h2, h3⟩ := HD.out; unfold sat; (try simp only [wrap64]); omega)
end Go.Proofs.YthkdojmamejkaaaDoor
