/- Contracts of the hash steps. -/
import Derived.Test.YthkdojmamejkaaaDoorD
import Derived.Test.YthkdojmamejkaaaDoorProg
import Derived.WalkKit
import Derived.WalkLawsBesides
import Derived.WalkSpells
import Derived.Deep.QuietTactic
import Derived.BigQuiet
import Derived.Deep.LoopGhost
import Derived.Deep.DeepFit
import Derived.Deep.DeepMust
import Derived.Lib.Hide
import Derived.Handy
import Derived.Deep.Light
import Derived.Laws.CopyOwn
import Derived.Deep.DeepCutAuto
import Derived.Deep.CutBlock
import Derived.Outline
set_option linter.unusedVariables false
set_option linter.unusedSimpArgs false
namespace Go.Proofs.YthkdojmamejkaaaDoor
open Go.RowKit
/-- A slice of whole numbers of kind k, read in w: n of them, xs. -/
def RdI (w : World) (k : IntKind) (A : Option Addr) (n : Nat) (xs : List Int) : Prop :=
  xs.length = n ∧ n ≤ 140737488355328 ∧ ∀ j, j < n → ∃ ad, A = some ad ∧ w.cell? (ad.add j) = some (.int k (xs.getD j 0))
def InK8 (xs : List Int) : Prop := ∀ j, 0 ≤ xs.getD j 0 ∧ xs.getD j 0 ≤ 255
theorem RdI.below {w w' : World} {k : IntKind} {A : Option Addr} {n : Nat} {xs : List Int} (h : RdI w k A n xs) (hb : Below w.heap.size w w') : RdI w' k A n xs :=
  ⟨h.1, h.2.1, fun j hj => by
    obtain ⟨ad, e, hc⟩ := h.2.2 j hj
    exact ⟨ad, e, (hb.cell (World.block_lt_of_cell? w _ hc)).trans hc⟩⟩
theorem RdI.drewN {w : World} {k : IntKind} {A : Option Addr} {n : Nat} {xs : List Int} (h : RdI w k A n xs) (m : Nat) : RdI (w.drewN m) k A n xs := h
theorem xor_rg (a b : Int) : 0 ≤ bits BinOp.xor IntKind.u32 a b ∧ bits BinOp.xor IntKind.u32 a b ≤ 4294967295 := by
  have h : bits BinOp.xor IntKind.u32 a b = IntKind.u32.wrap ((BitVec.ofInt 32 a ^^^ BitVec.ofInt 32 b).toNat : Nat) := rfl
  rw [h, IntKind.wrap_u32]; omega
/-- One step of the hash. -/
def stp (h c : Int) : Int :=
  bits BinOp.xor IntKind.u32 (bits BinOp.xor IntKind.u32 h c * 16777619 % 4294967296) (bits BinOp.xor IntKind.u32 h c * 16777619 % 4294967296 / 32768)
theorem stp_rg (h c : Int) : 0 ≤ stp h c ∧ stp h c ≤ 4294967295 := xor_rg _ _
def stps (h : Int) (xs : List Int) : Int := xs.foldl stp h
theorem stps_nil (h : Int) : stps h [] = h := rfl
theorem stps_rg (h : Int) (xs : List Int) (hh : 0 ≤ h ∧ h ≤ 4294967295) : 0 ≤ stps h xs ∧ stps h xs ≤ 4294967295 := by
  rcases List.eq_nil_or_concat xs with rfl | ⟨ys, y, rfl⟩
  · exact hh
  · unfold stps; rw [List.concat_eq_append, List.foldl_append]; exact stp_rg _ _
theorem take_snoc' (xs : List Int) (k : Nat) (h : k < xs.length) : xs.take (k + 1) = xs.take k ++ [xs.getD k 0] := by
  rw [List.take_succ_eq_append_getElem h, List.getD_eq_getElem?_getD, List.getElem?_eq_getElem h]; rfl
theorem stps_snoc (h : Int) (xs : List Int) (k : Nat) (hk : k < xs.length) : stps h (xs.take (k + 1)) = stp (stps h (xs.take k)) (xs.getD k 0) := by
  rw [take_snoc' xs k hk]; unfold stps; rw [List.foldl_append]; rfl
theorem c_step60 (h c : Int) (w : World) (hh : 0 ≤ h ∧ h ≤ 4294967295) (hr : 0 ≤ c ∧ c ≤ 255) :
    Calls Tryd.prog 28 #[.int .u32 h, .int .u8 c] w fun e w' => e = .returned (.int .u32 (stp h c)) ∧ w = w' := by
  go_enter Tryd.func28, Tryd.ntmps28
  go_wp2_with (fail)
  go_ret
  exact ⟨rfl, rfl⟩
theorem c_steps (h : Int) (A : Option Addr) (n c : Nat) (xs : List Int) (w : World) (hh : 0 ≤ h ∧ h ≤ 4294967295) (hx : RdI w .u8 A n xs) (hr : InK8 xs) :
    Calls Tryd.prog 125 #[.int .u32 h, .slice A n c] w fun e w' => e = .returned (.int .u32 (stps h xs)) ∧ ∃ nq, w' = w.drewN nq := by
  have hn := hx.2.1
  have hl := hx.1
  go_enter Tryd.func125, Tryd.ntmps125
  go_wp2_with (fail)
  go_loopw [0, 9] (fun v i wr => ∃ k : Nat, k ≤ n ∧ i = .int .i64 k ∧ v = .int .u32 (stps h (xs.take k)) ∧ ∃ nq, wr = w.drewN nq) (fun _ i _ => n - (intOf i).toNat)
  case atStart => exact ⟨0, by omega, rfl, rfl, 0, rfl⟩
  case round =>
    obtain ⟨k, hk, rfl, rfl, nq, rfl⟩ := hrel
    by_cases hlt : k < n
    · obtain ⟨ad, rfl, hc⟩ := hx.2.2 k hlt
      have hs := stps_snoc h xs k (by omega)
      have HS := Lib.hid hs
      have hrk := hr k
      have hb := stps_rg h (xs.take k) hh
      clear hs hx hr
      generalize xs.getD k 0 = b at hc hrk HS
      go_wp2_with (fail)
      go_roundw
      case rel => exact ⟨k + 1, by omega, by go_num, by rw [HS.out, stp], _, rfl⟩
      case measure => simp [intOf]; omega
    · go_wp2_with (fail)
      go_ret
      exact ⟨ret_int (by rw [List.take_of_length_le (by omega)]), _, rfl⟩

def InU8 (xs : List Int) : Prop := ∀ j, 0 ≤ xs.getD j 0 ∧ xs.getD j 0 ≤ 255
theorem cell_one_new' (w : World) (k : IntKind) (t : TypeId) (c : Int) : (w.alloc (.cells #[.int k c] t)).cell? ⟨w.heap.size, 0, none⟩ = some (.int k c) := by simp [World.cell?_alloc_new]
theorem rdI_one (w : World) (k : IntKind) (t : TypeId) (c : Int) : RdI (w.alloc (.cells #[.int k c] t)) k (some ⟨w.heap.size, 0, none⟩) 1 [c] := by
  refine ⟨rfl, by omega, fun j hj => ⟨_, rfl, ?_⟩⟩
  have hj0 : j = 0 := by omega
  subst hj0
  simp [Addr.add]
theorem inK8_one (c : Int) (hr : 0 ≤ c ∧ c ≤ 255) : InK8 [c] := fun j => by
  match j with
  | 0 => simpa using hr
  | j + 1 => simp
theorem c_hStep (h c : Int) (w : World) (hh : 0 ≤ h ∧ h ≤ 4294967295) (hr : 0 ≤ c ∧ c ≤ 255) :
    Calls Tryd.prog 30 #[.int .u32 h, .int .u8 c] w fun e w' => e = .returned (.int .u32 (stp h c)) ∧ Below w.heap.size w w' := by
  have hb := below_alloc w (.cells #[.int .u8 c] 5)
  go_enter Tryd.func30, Tryd.ntmps30
  go_wp2_with (go_at_call 125; refine (c_steps h _ 1 1 [c] _ hh (rdI_one w _ _ c) (inK8_one c hr)).mono ?_; rintro e w' ⟨rfl, nq, rfl⟩)
  go_ret
  exact ⟨rfl, below_drewN' hb _⟩
/-- The start of a kind. -/
def hst (k : Int) : Int := 2654435769 * (k + 1) % 4294967296
theorem hst_rg (k : Int) : 0 ≤ hst k ∧ hst k ≤ 4294967295 := by unfold hst; omega
theorem c_Start (k : Int) (w : World) (hk : 0 ≤ k ∧ k ≤ 7) :
    Calls Tryd.prog 26 #[.int .i64 k] w fun e w' => e = .returned (.tuple #[.int .u32 (hst k), .int .i64 0]) ∧ w = w' := by
  go_enter Tryd.func26, Tryd.ntmps26
  go_wp2_with (fail)
  go_ret2
  exact ⟨rfl, rfl⟩
theorem c_Start_no (k : Int) (w : World) (hw : -9223372036854775808 ≤ k ∧ k ≤ 9223372036854775807) (hk : k < 0 ∨ 7 < k) :
    Calls Tryd.prog 26 #[.int .i64 k] w fun e w' => e = .returned (.tuple #[.int .u32 0, .int .i64 2]) ∧ w = w' := by
  rcases hk with hk | hk
  · go_enter Tryd.func26, Tryd.ntmps26
    go_wp2_with (fail)
    go_ret2
    exact ⟨rfl, rfl⟩
  · go_enter Tryd.func26, Tryd.ntmps26
    go_wp2_with (fail)
    go_ret2
    exact ⟨rfl, rfl⟩
theorem c_hashed60 (kd : Int) (A : Option Addr) (n c : Nat) (xs : List Int) (w : World) (hk : 0 ≤ kd ∧ kd ≤ 7) (hx : RdI w .u8 A n xs) (hr : InK8 xs) :
    Calls Tryd.prog 27 #[.int .i64 kd, .slice A n c] w fun e w' => e = .returned (.int .u32 (stps (hst kd) xs)) ∧ ∃ nq, w' = w.drewN nq := by
  have hn := hx.2.1
  have hl := hx.1
  have H0 : Hid ((kd + 1) * 2654435769 % 4294967296 = hst kd) := by unfold hst; show _ = _; omega
  have hh := hst_rg kd
  go_enter Tryd.func27, Tryd.ntmps27
  go_wp2_with (fail)
  go_loopw [5, 14] (fun v i wr => ∃ k : Nat, k ≤ n ∧ i = .int .i64 k ∧ v = .int .u32 (stps (hst kd) (xs.take k)) ∧ ∃ nq, wr = w.drewN nq) (fun _ i _ => n - (intOf i).toNat)
  case atStart => exact ⟨0, by omega, rfl, by rw [H0.out, List.take_zero, stps_nil], 0, rfl⟩
  case round =>
    obtain ⟨k, hk, rfl, rfl, nq, rfl⟩ := hrel
    by_cases hlt : k < n
    · obtain ⟨ad, rfl, hc⟩ := hx.2.2 k hlt
      have hs := stps_snoc (hst kd) xs k (by omega)
      have HS := Lib.hid hs
      have hrk := hr k
      have hb := stps_rg (hst kd) (xs.take k) hh
      clear hs hx hr
      generalize xs.getD k 0 = b at hc hrk HS
      go_wp2_with (go_at_call 28; refine (c_step60 _ _ _ hb hrk).mono ?_; rintro e w' ⟨rfl, rfl⟩)
      go_roundw
      case rel => exact ⟨k + 1, by omega, by go_num, by rw [HS.out], _, rfl⟩
      case measure => simp [intOf]; omega
    · go_wp2_with (fail)
      go_ret
      exact ⟨ret_int (by rw [List.take_of_length_le (by omega)]), _, rfl⟩
theorem c_hCheck (h : Int) (w : World) (hh : 0 ≤ h ∧ h ≤ 4294967295) :
    Calls Tryd.prog 32 #[.int .u32 h] w fun e w' => e = .returned (.int .u8 (h / 16777216)) ∧ w = w' := by
  go_enter Tryd.func32, Tryd.ntmps32
  go_wp2_with (fail)
  go_ret
  exact ⟨rfl, rfl⟩
theorem c_Place (h s : Int) (w : World) (hh : 0 ≤ h ∧ h ≤ 4294967295) (hs : 1 ≤ s ∧ s ≤ 1048576) (hp : bits BinOp.and IntKind.i64 s (s - 1) = 0) :
    Calls Tryd.prog 29 #[.int .u32 h, .int .i64 s] w fun e w' => e = .returned (.tuple #[.int .i64 (bits BinOp.and IntKind.i64 h (s - 1)), .int .i64 0]) ∧ w = w' := by
  go_enter Tryd.func29, Tryd.ntmps29
  go_wp2_with (fail)
  go_ret2
  exact ⟨rfl, rfl⟩
theorem c_Place_no (h s : Int) (w : World) (hh : 0 ≤ h ∧ h ≤ 4294967295) (hw : -9223372036854775808 ≤ s ∧ s ≤ 9223372036854775807) (hs : s < 1 ∨ 1048576 < s ∨ (1 ≤ s ∧ s ≤ 1048576) ∧ (bits BinOp.and IntKind.i64 s (s - 1) != 0) = true) :
    Calls Tryd.prog 29 #[.int .u32 h, .int .i64 s] w fun e w' => e = .returned (.tuple #[.int .i64 0, .int .i64 2]) ∧ w = w' := by
  rcases hs with hs | hs | ⟨hs, h2⟩
  all_goals
    go_enter Tryd.func29, Tryd.ntmps29
    go_wp2_with (fail)
    go_ret2
    exact ⟨rfl, rfl⟩
end Go.Proofs.YthkdojmamejkaaaDoor
