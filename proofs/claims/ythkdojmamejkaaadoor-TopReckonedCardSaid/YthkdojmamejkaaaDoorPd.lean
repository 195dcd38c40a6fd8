/- Small lemmas for TopReckoned. -/
import Derived.Test.YthkdojmamejkaaaDoorPc
import Derived.Test.YthkdojmamejkaaaDoorProg
import Derived.WalkKit
import Derived.WalkLawsBesides
import Derived.WalkSpells
import Derived.Deep.QuietTactic
import Derived.BigQuiet
import Derived.Deep.LoopGhost
import Derived.Deep.DeepFit
import Derived.Deep.DeepMust
import Derived.Lib.Hide
import Derived.Handy
import Derived.Deep.Light
import Derived.Laws.CopyOwn
import Derived.Deep.DeepCutAuto
import Derived.Deep.CutBlock
import Derived.Outline
set_option linter.unusedVariables false
set_option linter.unusedSimpArgs false
namespace Go.Proofs.YthkdojmamejkaaaDoor
open Go.RowKit
theorem RdI.take {w : World} {k : IntKind} {A : Option Addr} {n : Nat} {xs : List Int} (h : RdI w k A n xs) (m : Nat) : RdI w k A (min n m) (xs.take m) := by
  obtain ⟨h1, h2, h3⟩ := h
  refine ⟨by rw [List.length_take, h1]; omega, by omega, fun j hj => ?_⟩
  obtain ⟨ad, e, hc⟩ := h3 j (by omega)
  refine ⟨ad, e, ?_⟩
  rw [hc]
  simp only [List.getD_eq_getElem?_getD, List.getElem?_take]
  rw [if_pos (by omega)]
theorem slice_eq {A : Option Addr} {n m c : Nat} (h : n = m) : Value.slice A n c = Value.slice A m c := by rw [h]
theorem i64_and32 (n : Int) : bits .and .i64 n 4294967295 = n % 4294967296 := by
  have h127 : (BitVec.ofInt 64 4294967295).toNat = 2 ^ 32 - 1 := by decide
  have key : (BitVec.ofInt 64 n &&& BitVec.ofInt 64 4294967295).toNat = (n % ((2 ^ 64 : Nat) : Int)).toNat % 2 ^ 32 := by
    rw [BitVec.toNat_and, BitVec.toNat_ofInt, h127, Nat.and_two_pow_sub_one_eq_mod]
  show IntKind.i64.wrap ((BitVec.ofInt 64 n &&& BitVec.ofInt 64 4294967295).toNat : Nat) = n % 4294967296
  rw [key, IntKind.wrap_i64]
  omega
/-- The sum in two parts. -/
def TwoIs (xs ys : List Int) (k : Nat) (hi lo : Int) : Prop := hi * 4294967296 + lo = dotk xs ys k ∧ 0 ≤ lo ∧ lo ≤ 4294967295 * k
theorem tmod_rg (a m : Int) (hm : 0 < m) : -m < a.tmod m ∧ a.tmod m < m := ⟨Int.lt_tmod_of_pos a hm, Int.tmod_lt_of_pos a hm⟩
theorem seven (w : World) (g : Nat) (t : TypeId) (d0 d1 d2 d3 d4 d5 d6 : Int) (h0 : -2147483648 ≤ d0 ∧ d0 ≤ 2147483647) (h1 : -2147483648 ≤ d1 ∧ d1 ≤ 2147483647) (h2 : -2147483648 ≤ d2 ∧ d2 ≤ 2147483647)
    (h3 : -2147483648 ≤ d3 ∧ d3 ≤ 2147483647) (h4 : -2147483648 ≤ d4 ∧ d4 ≤ 2147483647) (h5 : -2147483648 ≤ d5 ∧ d5 ≤ 2147483647) (h6 : -2147483648 ≤ d6 ∧ d6 ≤ 2147483647)
    (h : Bk w g t #[.int .i32 d0, .int .i32 d1, .int .i32 d2, .int .i32 d3, .int .i32 d4, .int .i32 d5, .int .i32 d6]) (k : Nat) (hk : k < 7) :
    ∃ d : Int, w.cell? ⟨g, k, none⟩ = some (.int .i32 d) ∧ -2147483648 ≤ d ∧ d ≤ 2147483647 := by
  have hc := h.cell k
  match k, hk with
  | 0, _ => exact ⟨d0, hc, h0⟩
  | 1, _ => exact ⟨d1, hc, h1⟩
  | 2, _ => exact ⟨d2, hc, h2⟩
  | 3, _ => exact ⟨d3, hc, h3⟩
  | 4, _ => exact ⟨d4, hc, h4⟩
  | 5, _ => exact ⟨d5, hc, h5⟩
  | 6, _ => exact ⟨d6, hc, h6⟩
end Go.Proofs.YthkdojmamejkaaaDoor
