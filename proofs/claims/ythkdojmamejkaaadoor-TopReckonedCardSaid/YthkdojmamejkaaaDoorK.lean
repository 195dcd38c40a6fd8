/- Contracts of the library's look for a bad bit and of the greatest byte. -/
import Derived.Test.YthkdojmamejkaaaDoorJ
import Derived.Test.YthkdojmamejkaaaDoorProg
import Derived.WalkKit
import Derived.WalkLawsBesides
import Derived.WalkSpells
import Derived.Deep.QuietTactic
import Derived.BigQuiet
import Derived.Deep.LoopGhost
import Derived.Deep.DeepFit
import Derived.Deep.DeepMust
import Derived.Lib.Hide
import Derived.Handy
import Derived.Deep.Light
import Derived.Laws.CopyOwn
import Derived.Deep.DeepCutAuto
import Derived.Deep.CutBlock
import Derived.Outline
set_option linter.unusedVariables false
set_option linter.unusedSimpArgs false
namespace Go.Proofs.YthkdojmamejkaaaDoor
open Go.RowKit
def oddB (xs : List Int) : Bool := xs.any fun b => decide (1 < b)
theorem any_take_succ (p : Int → Bool) (xs : List Int) (k : Nat) (hk : k < xs.length) : (xs.take (k + 1)).any p = ((xs.take k).any p || p (xs.getD k 0)) := by
  rw [take_snoc' xs k hk, List.any_append]; simp
theorem any_of_take (p : Int → Bool) (xs : List Int) (k : Nat) (h : (xs.take k).any p = true) : xs.any p = true := by
  rw [List.any_eq_true] at *
  obtain ⟨x, hx, hp⟩ := h
  exact ⟨x, List.mem_of_mem_take hx, hp⟩
theorem c_rb144 (x : Int) (w : World) (hx : 0 ≤ x ∧ x ≤ 255) :
    Calls Tryd.prog 144 #[.int .u8 x] w fun e w' => e = .returned (.bool (decide (1 < x))) ∧ w = w' := by
  go_enter Tryd.func144, Tryd.ntmps144
  go_wp2
  go_ret
  exact ⟨rfl, rfl⟩
def IxRet (n : Nat) (w : World) (odd : Bool) (e : Ending) (w' : World) : Prop := ∃ r : Int, e = .returned (.int .i64 r) ∧ decide (0 ≤ r) = odd ∧ -1 ≤ r ∧ r ≤ n ∧ ∃ nq, w' = w.drewN nq
theorem c_IndexFunc144 (A : Option Addr) (n c : Nat) (xs : List Int) (w : World) (hx : RdI w .u8 A n xs) (hr : InK8 xs) :
    Calls Tryd.prog 140 #[.slice A n c, .func (.func 144) #[] #[]] w (IxRet n w (oddB xs)) := by
  have hn := hx.2.1
  have hl := hx.1
  go_enter Tryd.func140, Tryd.ntmps140
  go_wp2_with (fail)
  go_loopw [8] (fun i wr => ∃ k : Nat, k ≤ n ∧ i = .int .i64 k ∧ (xs.take k).any (fun b => decide (1 < b)) = false ∧ ∃ nq, wr = w.drewN nq) (fun i _ => n - (intOf i).toNat)
  case atStart => exact ⟨0, by omega, rfl, rfl, 0, rfl⟩
  case round =>
    obtain ⟨k, hk, rfl, hno, nq, rfl⟩ := hrel
    by_cases hlt : k < n
    · obtain ⟨ad, rfl, hc⟩ := hx.2.2 k hlt
      have hsu := any_take_succ (fun b => decide (1 < b)) xs k (by omega)
      rw [hno, Bool.false_or] at hsu
      have HS := Lib.hid hsu
      have HN := Lib.hid hno
      have hrk := hr k
      clear hsu hno
      by_cases hb : 1 < xs.getD k 0
      · have HX : Hid (oddB xs = true) := any_of_take _ _ (k + 1) (by rw [HS.out]; simpa using hb)
        clear HS
        generalize xs.getD k 0 = b at *
        have hd : decide (1 < b) = true := by simpa using hb
        go_wp2_with (go_at_call 144; refine (c_rb144 _ _ hrk).mono ?_; rintro e w' ⟨rfl, rfl⟩)
        go_ret
        exact ⟨k, rfl, by rw [HX.out]; simp, by omega, by omega, _, rfl⟩
      · have HX : Hid ((xs.take (k + 1)).any (fun b => decide (1 < b)) = false) := Lib.hid (by rw [HS.out]; simpa using hb)
        clear HS
        generalize xs.getD k 0 = b at *
        have hd : decide (1 < b) = false := by simpa using hb
        go_wp2_with (go_at_call 144; refine (c_rb144 _ _ hrk).mono ?_; rintro e w' ⟨rfl, rfl⟩)
        go_roundw
        case rel => exact ⟨k + 1, by omega, by go_num, HX.out, _, rfl⟩
        case measure => simp [intOf]; omega
    · have HN : Hid (oddB xs = false) := by unfold oddB; rw [List.take_of_length_le (by omega)] at hno; exact hno
      clear hno
      go_wp2_with (fail)
      go_ret
      exact ⟨-1, rfl, by rw [HN.out]; rfl, by omega, by omega, _, rfl⟩
theorem c_ContainsFunc144 (A : Option Addr) (n c : Nat) (xs : List Int) (w : World) (hx : RdI w .u8 A n xs) (hr : InK8 xs) :
    Calls Tryd.prog 52 #[.slice A n c, .func (.func 144) #[] #[]] w fun e w' => e = .returned (.bool (oddB xs)) ∧ ∃ nq, w' = w.drewN nq := by
  have hn := hx.2.1
  go_enter Tryd.func52, Tryd.ntmps52
  go_wp2_with (go_at_call 140; refine (c_IndexFunc144 A n c xs _ hx hr).mono ?_; rintro e w' ⟨r, rfl, hd, h1, h2, nq, rfl⟩)
  go_ret
  exact ⟨rfl, _, rfl⟩
/-- r is the greatest of the first k. -/
def MaxOf (xs : List Int) (k : Nat) (r : Int) : Prop := (∀ j, j < k → xs.getD j 0 ≤ r) ∧ ∃ j, j < k ∧ xs.getD j 0 = r
theorem MaxOf.one (xs : List Int) : MaxOf xs 1 (xs.getD 0 0) := ⟨fun j hj => by obtain rfl : j = 0 := by omega
                                                                                exact Int.le_refl _, 0, by omega, rfl⟩
theorem MaxOf.more {xs : List Int} {k : Nat} {r : Int} (h : MaxOf xs k r) (v : Int) (hv : v = max r (xs.getD k 0)) : MaxOf xs (k + 1) v := by
  obtain ⟨h1, j, hj, h2⟩ := h
  subst hv
  refine ⟨fun i hi => ?_, ?_⟩
  · by_cases e : i = k
    · subst e; omega
    · have := h1 i (by omega); omega
  · by_cases e : r ≤ xs.getD k 0
    · exact ⟨k, by omega, by omega⟩
    · exact ⟨j, by omega, by omega⟩
def MaxRet (kd : IntKind) (n : Nat) (xs : List Int) (w : World) (e : Ending) (w' : World) : Prop := ∃ r : Int, e = .returned (.int kd r) ∧ MaxOf xs n r ∧ ∃ nq, w' = w.drewN nq
theorem MaxOf.rg8 {xs : List Int} {k : Nat} {r : Int} (h : MaxOf xs k r) (hr : InK8 xs) : 0 ≤ r ∧ r ≤ 255 := by
  obtain ⟨h1, j, hj, h2⟩ := h
  have := hr j
  omega
set_option maxRecDepth 100000 in
theorem c_Max8 (A : Option Addr) (n c : Nat) (xs : List Int) (w : World) (hx : RdI w .u8 A n xs) (hr : InK8 xs) (h0 : 0 < n) :
    Calls Tryd.prog 142 #[.slice A n c] w (MaxRet .u8 n xs w) := by
  have hn := hx.2.1
  obtain ⟨ad, rfl, hc⟩ := hx.2.2 0 h0
  have hc : w.cell? ad = some (.int .u8 (xs.getD 0 0)) := by simpa [Addr.add] using hc
  have hm0 := MaxOf.one xs
  generalize xs.getD 0 0 = x0 at *
  go_enter Tryd.func142, Tryd.ntmps142
  go_wp2_with (fail)
  go_loopw [3, 4] (fun v i wr => ∃ (k : Nat) (m : Int), 1 ≤ k ∧ k ≤ n ∧ i = .int .i64 k ∧ v = .int .u8 m ∧ MaxOf xs k m ∧ ∃ nq, wr = w.drewN nq) (fun _ i _ => n - (intOf i).toNat)
  case atStart => exact ⟨1, x0, by omega, by omega, rfl, rfl, hm0, 0, rfl⟩
  case round =>
    obtain ⟨k, m, h1k, hk, rfl, rfl, hm, nq, rfl⟩ := hrel
    have hmr := hm.rg8 hr
    have HM := Lib.hid (fun v => hm.more v)
    have HE := Lib.hid hm
    clear hm
    by_cases hlt : k < n
    · obtain ⟨ad', e, hck⟩ := hx.2.2 k hlt
      injection e with e
      subst e
      have hrk := hr k
      generalize xs.getD k 0 = v at *
      go_wp2_with (fail)
      all_goals
        go_roundw
        case rel => exact ⟨k + 1, _, by omega, by omega, by go_num, rfl, HM.out _ (by omega), _, rfl⟩
        case measure => simp [intOf]; omega
    · obtain rfl : k = n := by omega
      go_wp2_with (fail)
      go_ret
      exact ⟨m, rfl, HE.out, _, rfl⟩
end Go.Proofs.YthkdojmamejkaaaDoor
