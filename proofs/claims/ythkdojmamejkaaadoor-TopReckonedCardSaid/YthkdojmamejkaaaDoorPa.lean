/- Contracts that cover every argument. -/
import Derived.Test.YthkdojmamejkaaaDoorN
import Derived.Test.YthkdojmamejkaaaDoorO
import Derived.Test.YthkdojmamejkaaaDoorH
import Derived.Test.YthkdojmamejkaaaDoorG
import Derived.Test.YthkdojmamejkaaaDoorF
import Derived.Test.YthkdojmamejkaaaDoorProg
import Derived.WalkKit
import Derived.WalkLawsBesides
import Derived.WalkSpells
import Derived.Deep.QuietTactic
import Derived.BigQuiet
import Derived.Deep.LoopGhost
import Derived.Deep.DeepFit
import Derived.Deep.DeepMust
import Derived.Lib.Hide
import Derived.Handy
import Derived.Deep.Light
import Derived.Laws.CopyOwn
import Derived.Deep.DeepCutAuto
import Derived.Deep.CutBlock
import Derived.Outline
set_option linter.unusedVariables false
set_option linter.unusedSimpArgs false
namespace Go.Proofs.YthkdojmamejkaaaDoor
open Go.RowKit
/-! ### contracts that cover every argument -/
def rndE (k : Int) : Int := if k < 0 ∨ 62 < k then 2 else 0
def rndV (n k : Int) : Int := if k < 0 ∨ 62 < k then 0 else if k = 0 then n else rndk n k
theorem c_Round_any (n k : Int) (w : World) (h : -9223372036854775808 ≤ n ∧ n ≤ 9223372036854775807) (hk : -9223372036854775808 ≤ k ∧ k ≤ 9223372036854775807) :
    Calls Tryd.prog 14 #[.int .i64 n, .int .i64 k] w fun e w' => e = .returned (.tuple #[.int .i64 (rndV n k), .int .i64 (rndE k)]) ∧ ∃ nq, w' = w.drewN nq := by
  unfold rndV rndE
  by_cases h1 : k < 0 ∨ 62 < k
  · rw [if_pos h1, if_pos h1]
    exact (c_Round_no n k w h h1).mono fun _ _ ⟨he, hw⟩ => ⟨he, 0, hw.symm⟩
  · rw [if_neg h1, if_neg h1]
    by_cases h0 : k = 0
    · rw [if_pos h0]
      subst h0
      exact (c_Round_0 n w h).mono fun _ _ ⟨he, hw⟩ => ⟨he, 0, hw.symm⟩
    · rw [if_neg h0]
      exact c_Round_k n k w h (by omega) (by omega)
def dotE (n m : Nat) : Int := if 16 < n ∨ 16 < m then 4 else if n ≠ m then 2 else 0
def dotV (xs ys : List Int) (n m : Nat) : Int := if 16 < n ∨ 16 < m then 0 else if n ≠ m then 0 else sat (dotk xs ys n)
theorem c_Dot_any (A B : Option Addr) (n c m d : Nat) (xs ys : List Int) (w : World) (hx : RdI w .i32 A n xs) (hy : RdI w .i32 B m ys) (rx : InI32 xs) (ry : InI32 ys) :
    Calls Tryd.prog 15 #[.slice A n c, .slice B m d] w fun e w' => e = .returned (.tuple #[.int .i32 (dotV xs ys n m), .int .i64 (dotE n m)]) ∧ ∃ nq, w' = w.drewN nq := by
  unfold dotV dotE
  by_cases h1 : 16 < n ∨ 16 < m
  · rw [if_pos h1, if_pos h1]
    exact (c_Dot_many A B n c m d w hx.2.1 hy.2.1 h1).mono fun _ _ ⟨he, hw⟩ => ⟨he, 0, hw.symm⟩
  · rw [if_neg h1, if_neg h1]
    by_cases h0 : n ≠ m
    · rw [if_pos h0, if_pos h0]
      exact (c_Dot_ne A B n c m d w (by omega) (by omega) h0).mono fun _ _ ⟨he, hw⟩ => ⟨he, 0, hw.symm⟩
    · rw [if_neg h0, if_neg h0]
      obtain rfl : n = m := by omega
      exact c_Dot A B n c d xs ys w (by omega) hx hy rx ry
def ofE (n : Int) : Int := if n < 1 ∨ 1024 < n then 2 else 0
def ofV (n : Int) : Int := if n < 1 ∨ 1024 < n then 0 else 65536 / n
def divV (x n : Int) : Int := if n < 1 ∨ 1024 < n then 0 else rdiv x n
theorem c_Of_any (n : Int) (w : World) (h : -2147483648 ≤ n ∧ n ≤ 2147483647) :
    Calls Tryd.prog 21 #[.int .i32 n] w fun e w' => e = .returned (.tuple #[.int .i32 (ofV n), .int .i64 (ofE n)]) ∧ w = w' := by
  unfold ofV ofE
  by_cases h1 : n < 1 ∨ 1024 < n
  · rw [if_pos h1, if_pos h1]; exact c_Of_no n w h h1
  · rw [if_neg h1, if_neg h1]; exact c_Of n w (by omega)
theorem c_Div_any (x n : Int) (w : World) (h : -2147483648 ≤ n ∧ n ≤ 2147483647) (hx : -2147483648 ≤ x ∧ x ≤ 2147483647) :
    Calls Tryd.prog 22 #[.int .i32 x, .int .i32 n] w fun e w' => e = .returned (.tuple #[.int .i32 (divV x n), .int .i64 (ofE n)]) ∧ w = w' := by
  unfold divV ofE
  by_cases h1 : n < 1 ∨ 1024 < n
  · rw [if_pos h1, if_pos h1]; exact c_Div_no x n w h h1 hx
  · rw [if_neg h1, if_neg h1]; exact c_Div x n w (by omega) hx
def stBad (p t n : Int) : Prop := (n < 1 ∨ 1024 < n) ∨ p < 0 ∨ t < 0 ∨ 65535 < p ∨ 65535 < t
instance (p t n : Int) : Decidable (stBad p t n) := by unfold stBad; infer_instance
def stE (p t n : Int) : Int := if stBad p t n then 2 else 0
def stV (p t n : Int) : Int := if stBad p t n then 0 else p + rdiv (t - p) n
theorem c_Step_any (p t n : Int) (w : World) (h : -2147483648 ≤ n ∧ n ≤ 2147483647) (hp : -2147483648 ≤ p ∧ p ≤ 2147483647) (ht : -2147483648 ≤ t ∧ t ≤ 2147483647) :
    Calls Tryd.prog 23 #[.int .i32 p, .int .i32 t, .int .i32 n] w fun e w' => e = .returned (.tuple #[.int .i32 (stV p t n), .int .i64 (stE p t n)]) ∧ w = w' := by
  unfold stV stE
  by_cases h1 : stBad p t n
  · rw [if_pos h1, if_pos h1]; exact c_Step_no p t n w h hp ht h1
  · rw [if_neg h1, if_neg h1]
    unfold stBad at h1
    exact c_Step p t n w (by omega) (by omega) (by omega)
def hE (k : Int) : Int := if k < 0 ∨ 7 < k then 2 else 0
def hV (k : Int) (xs : List Int) : Int := if k < 0 ∨ 7 < k then 0 else stps (hst k) xs
def hS (k : Int) : Int := if k < 0 ∨ 7 < k then 0 else hst k
theorem c_hOf_any (kd : Int) (A : Option Addr) (n c : Nat) (xs : List Int) (w : World) (hw : -9223372036854775808 ≤ kd ∧ kd ≤ 9223372036854775807) (hx : RdI w .u8 A n xs) (hr : InK8 xs) (hm : n ≤ 20000) :
    Calls Tryd.prog 25 #[.int .i64 kd, .slice A n c] w fun e w' => e = .returned (.tuple #[.int .u32 (hV kd xs), .int .i64 (hE kd)]) ∧ ∃ nq, w' = w.drewN nq := by
  unfold hV hE
  by_cases h1 : kd < 0 ∨ 7 < kd
  · rw [if_pos h1, if_pos h1]; exact c_hOf_no kd A n c w hw h1 hm
  · rw [if_neg h1, if_neg h1]; exact c_hOf kd A n c xs w (by omega) hx hr hm
theorem c_Start_any (kd : Int) (w : World) (hw : -9223372036854775808 ≤ kd ∧ kd ≤ 9223372036854775807) :
    Calls Tryd.prog 26 #[.int .i64 kd] w fun e w' => e = .returned (.tuple #[.int .u32 (hS kd), .int .i64 (hE kd)]) ∧ w = w' := by
  unfold hS hE
  by_cases h1 : kd < 0 ∨ 7 < kd
  · rw [if_pos h1, if_pos h1]; exact c_Start_no kd w hw h1
  · rw [if_neg h1, if_neg h1]; exact c_Start kd w (by omega)
def plOk (s : Int) : Prop := 1 ≤ s ∧ s ≤ 1048576 ∧ bits BinOp.and IntKind.i64 s (s - 1) = 0
instance (s : Int) : Decidable (plOk s) := by unfold plOk; infer_instance
def plE (s : Int) : Int := if plOk s then 0 else 2
def plV (h s : Int) : Int := if plOk s then bits BinOp.and IntKind.i64 h (s - 1) else 0
theorem c_Place_any (h s : Int) (w : World) (hh : 0 ≤ h ∧ h ≤ 4294967295) (hw : -9223372036854775808 ≤ s ∧ s ≤ 9223372036854775807) :
    Calls Tryd.prog 29 #[.int .u32 h, .int .i64 s] w fun e w' => e = .returned (.tuple #[.int .i64 (plV h s), .int .i64 (plE s)]) ∧ w = w' := by
  unfold plV plE
  by_cases h1 : plOk s
  · rw [if_pos h1, if_pos h1]
    unfold plOk at h1
    exact c_Place h s w hh ⟨h1.1, h1.2.1⟩ h1.2.2
  · rw [if_neg h1, if_neg h1]
    refine c_Place_no h s w hh hw ?_
    unfold plOk at h1
    by_cases h2 : s < 1
    · exact .inl h2
    · by_cases h3 : 1048576 < s
      · exact .inr (.inl h3)
      · refine .inr (.inr ⟨by omega, ?_⟩)
        rw [bne_iff_ne]
        intro h4
        exact h1 ⟨by omega, by omega, h4⟩
end Go.Proofs.YthkdojmamejkaaaDoor
