/- Contracts of the hash of a string and of undoing a step. -/
import Derived.Test.YthkdojmamejkaaaDoorE
import Derived.Test.YthkdojmamejkaaaDoorProg
import Derived.WalkKit
import Derived.WalkLawsBesides
import Derived.WalkSpells
import Derived.Deep.QuietTactic
import Derived.BigQuiet
import Derived.Deep.LoopGhost
import Derived.Deep.DeepFit
import Derived.Deep.DeepMust
import Derived.Lib.Hide
import Derived.Handy
import Derived.Deep.Light
import Derived.Laws.CopyOwn
import Derived.Deep.DeepCutAuto
import Derived.Deep.CutBlock
import Derived.Outline
set_option linter.unusedVariables false
set_option linter.unusedSimpArgs false
namespace Go.Proofs.YthkdojmamejkaaaDoor
open Go.RowKit
theorem c_hOf (kd : Int) (A : Option Addr) (n c : Nat) (xs : List Int) (w : World) (hk : 0 ≤ kd ∧ kd ≤ 7) (hx : RdI w .u8 A n xs) (hr : InK8 xs) (hm : n ≤ 20000) :
    Calls Tryd.prog 25 #[.int .i64 kd, .slice A n c] w fun e w' => e = .returned (.tuple #[.int .u32 (stps (hst kd) xs), .int .i64 0]) ∧ ∃ nq, w' = w.drewN nq := by
  have hh := hst_rg kd
  go_enter Tryd.func25, Tryd.ntmps25
  go_wp2_with (first | (go_at_call 26; refine (c_Start _ _ hk).mono ?_; rintro e w' ⟨rfl, rfl⟩) | (go_at_call 125; refine (c_steps _ _ n c xs _ hh hx hr).mono ?_; rintro e w' ⟨rfl, nq, rfl⟩))
  go_ret2
  exact ⟨rfl, nq, rfl⟩
theorem c_hOf_no (kd : Int) (A : Option Addr) (n c : Nat) (w : World) (hw : -9223372036854775808 ≤ kd ∧ kd ≤ 9223372036854775807) (hk : kd < 0 ∨ 7 < kd) (hm : n ≤ 20000) :
    Calls Tryd.prog 25 #[.int .i64 kd, .slice A n c] w fun e w' => e = .returned (.tuple #[.int .u32 0, .int .i64 2]) ∧ ∃ nq, w' = w.drewN nq := by
  go_enter Tryd.func25, Tryd.ntmps25
  go_wp2_with (first | (go_at_call 26; refine (c_Start_no _ _ hw hk).mono ?_; rintro e w' ⟨rfl, rfl⟩))
  go_ret2
  exact ⟨rfl, 0, rfl⟩
def bck (h c : Int) : Int :=
  bits BinOp.xor IntKind.u32 (bits BinOp.xor IntKind.u32 h (bits BinOp.xor IntKind.u32 (h / 32768) (h / 1073741824)) * 899433627 % 4294967296) c
theorem c_Back (h c : Int) (w : World) (hb : 0 ≤ h ∧ h ≤ 4294967295) (hl : 0 ≤ c ∧ c ≤ 255) :
    Calls Tryd.prog 31 #[.int .u32 h, .int .u8 c] w fun e w' => e = .returned (.int .u32 (bck h c)) ∧ Below w.heap.size w w' := by
  have hbw := below_alloc w (.cells #[.int .u32 899433627] 41)
  go_enter Tryd.func31, Tryd.ntmps31
  go_wp2_with fail
  go_rounds 6
  go_ret
  exact ⟨rfl, hbw⟩
theorem xor_nat (a b : Nat) (ha : a < 4294967296) (hb : b < 4294967296) : bits BinOp.xor IntKind.u32 (a : Int) (b : Int) = ((a ^^^ b : Nat) : Int) := by
  have h : bits BinOp.xor IntKind.u32 (a : Int) (b : Int) = IntKind.u32.wrap ((BitVec.ofInt 32 (a : Int) ^^^ BitVec.ofInt 32 (b : Int)).toNat : Nat) := rfl
  rw [h, BitVec.ofInt_natCast, BitVec.ofInt_natCast, BitVec.toNat_xor, BitVec.toNat_ofNat, BitVec.toNat_ofNat, IntKind.wrap_u32]
  have hx : a ^^^ b < 2 ^ 32 := Nat.xor_lt_two_pow (by omega) (by omega)
  rw [Nat.mod_eq_of_lt (show a < 2 ^ 32 by omega), Nat.mod_eq_of_lt (show b < 2 ^ 32 by omega)]
  omega
theorem undo_nat (x : Nat) (hx : x < 4294967296) : (x ^^^ x / 32768) ^^^ ((x ^^^ x / 32768) / 32768 ^^^ (x ^^^ x / 32768) / 1073741824) = x := by
  have e1 : ∀ y : Nat, y / 32768 = y >>> 15 := fun y => by rw [Nat.shiftRight_eq_div_pow]
  have e2 : ∀ y : Nat, y / 1073741824 = y >>> 30 := fun y => by rw [Nat.shiftRight_eq_div_pow]
  rw [e1, e1, e2, Nat.shiftRight_xor_distrib, Nat.shiftRight_xor_distrib, ← Nat.shiftRight_add, ← Nat.shiftRight_add]
  have e3 : x >>> (15 + 30) = 0 := by rw [Nat.shiftRight_eq_div_pow]; exact Nat.div_eq_of_lt (by omega)
  rw [e3, Nat.xor_zero, Nat.xor_assoc (x >>> 15), Nat.xor_self, Nat.xor_zero, Nat.xor_assoc, Nat.xor_self, Nat.xor_zero]
theorem inv_nat (t : Nat) (ht : t < 2 ^ 32) : t * 16777619 % 4294967296 * 899433627 % 4294967296 = t := by omega
theorem bck_stp (h c : Int) (hh : 0 ≤ h ∧ h ≤ 4294967295) (hc : 0 ≤ c ∧ c ≤ 255) : bck (stp h c) c = h := by
  obtain ⟨a, rfl⟩ := Int.eq_ofNat_of_zero_le hh.1
  obtain ⟨b, rfl⟩ := Int.eq_ofNat_of_zero_le hc.1
  have hab : a ^^^ b < 2 ^ 32 := Nat.xor_lt_two_pow (by omega) (by omega)
  generalize hx : (a ^^^ b) * 16777619 % 4294967296 = x
  have hxl : x < 4294967296 := by omega
  have hs : stp (a : Int) (b : Int) = ((x ^^^ x / 32768 : Nat) : Int) := by
    unfold stp
    rw [xor_nat a b (by omega) (by omega)]
    have e : ((a ^^^ b : Nat) : Int) * 16777619 % 4294967296 = (x : Int) := by omega
    have e' : (x : Int) / 32768 = ((x / 32768 : Nat) : Int) := by omega
    rw [e, e', xor_nat _ _ hxl (by omega)]
  have hy : x ^^^ x / 32768 < 2 ^ 32 := Nat.xor_lt_two_pow (by omega) (by omega)
  rw [hs]
  have hu := undo_nat x hxl
  generalize x ^^^ x / 32768 = y at hu hy
  unfold bck
  have e1 : (y : Int) / 32768 = ((y / 32768 : Nat) : Int) := by omega
  have e2 : (y : Int) / 1073741824 = ((y / 1073741824 : Nat) : Int) := by omega
  rw [e1, e2, xor_nat _ _ (by omega) (by omega), xor_nat _ _ (by omega) (Nat.xor_lt_two_pow (n := 32) (by omega) (by omega)), hu]
  have e3 : (x : Int) * 899433627 % 4294967296 = ((a ^^^ b : Nat) : Int) := by
    have := inv_nat (a ^^^ b) hab
    rw [hx] at this
    omega
  rw [e3, xor_nat _ _ (by omega) (by omega), Nat.xor_assoc, Nat.xor_self, Nat.xor_zero]
end Go.Proofs.YthkdojmamejkaaaDoor
