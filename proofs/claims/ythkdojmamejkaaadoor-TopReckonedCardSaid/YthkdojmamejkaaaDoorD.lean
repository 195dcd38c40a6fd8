/- Contracts of stretching, by halves. -/
import Derived.Test.YthkdojmamejkaaaDoorC
import Derived.Test.YthkdojmamejkaaaDoorProg
import Derived.WalkKit
import Derived.WalkLawsBesides
import Derived.WalkSpells
import Derived.Deep.QuietTactic
import Derived.BigQuiet
import Derived.Deep.LoopGhost
import Derived.Deep.DeepFit
import Derived.Deep.DeepMust
import Derived.Lib.Hide
import Derived.Handy
import Derived.Deep.Light
import Derived.Laws.CopyOwn
import Derived.Deep.DeepCutAuto
import Derived.Deep.CutBlock
import Derived.Outline
set_option linter.unusedVariables false
set_option linter.unusedSimpArgs false
namespace Go.Proofs.YthkdojmamejkaaaDoor
open Go.RowKit
theorem RowIs.below {g : Nat} {k : IntKind} {w w' : World} (h : RowIs g k w) (hb : Below w.heap.size w w') : RowIs g k w' :=
  fun j hj => (hb.cell (World.block_lt_of_cell? w _ (h j hj))).trans (h j hj)
theorem RowIs.drewN {g : Nat} {k : IntKind} {w : World} (h : RowIs g k w) (n : Nat) : RowIs g k (w.drewN n) := fun j hj => by simpa using h j hj
theorem RowIs.alloc {g : Nat} {k : IntKind} {w : World} (h : RowIs g k w) (o : Obj) : RowIs g k (w.alloc o) := h.below (below_alloc w o)
/-- The place between two at which squashing comes to p, by halves. -/
def bs (p : Int) : Nat → Int → Int → Int
  | 0, low, _ => low
  | n + 1, low, high => if low < high then (if p ≤ sq ((low + high) / 2) then bs p n low ((low + high) / 2) else bs p n ((low + high) / 2 + 1) high) else low
def st (p : Int) : Int := bs p 4094 (-2047) 2047
theorem bs_end (p : Int) (n : Nat) (low high : Int) (h : high ≤ low) : bs p n low high = low := by
  cases n with
  | zero => rfl
  | succ n => unfold bs; rw [if_neg (by omega)]
theorem bs_lo (p : Int) (n : Nat) (low high : Int) (h : low < high) (hp : p ≤ sq ((low + high) / 2)) : bs p (n + 1) low high = bs p n low ((low + high) / 2) := by
  conv => lhs; unfold bs
  rw [if_pos h, if_pos hp]
theorem bs_hi (p : Int) (n : Nat) (low high : Int) (h : low < high) (hp : ¬ p ≤ sq ((low + high) / 2)) : bs p (n + 1) low high = bs p n ((low + high) / 2 + 1) high := by
  conv => lhs; unfold bs
  rw [if_pos h, if_neg hp]
theorem bs_rg (p : Int) : ∀ (n : Nat) (low high : Int), low ≤ high → low ≤ bs p n low high ∧ bs p n low high ≤ high := by
  intro n
  induction n with
  | zero => intro low high h; unfold bs; omega
  | succ n ih =>
    intro low high h
    by_cases hl : low < high
    · by_cases hp : p ≤ sq ((low + high) / 2)
      · rw [bs_lo p n low high hl hp]; have := ih low ((low + high) / 2) (by omega); omega
      · rw [bs_hi p n low high hl hp]; have := ih ((low + high) / 2 + 1) high (by omega); omega
    · rw [bs_end p _ low high (by omega)]; omega
theorem st_rg (p : Int) : -2047 ≤ st p ∧ st p ≤ 2047 := bs_rg p 4094 _ _ (by omega)
/-- What holds at the head of the search's loop. -/
def BsRel (p low high : Int) : Prop := ∃ n : Nat, high - low ≤ n ∧ bs p n low high = st p
theorem BsRel.start (p : Int) : BsRel p (-2047) 2047 := ⟨4094, by omega, rfl⟩
theorem BsRel.lo {p low high : Int} (h : BsRel p low high) (hl : low < high) (hp : p ≤ sq ((low + high) / 2)) : BsRel p low ((low + high) / 2) := by
  obtain ⟨n, hn, e⟩ := h
  obtain ⟨m, rfl⟩ : ∃ m, n = m + 1 := ⟨n - 1, by omega⟩
  exact ⟨m, by omega, by rw [← e, bs_lo p m low high hl hp]⟩
theorem BsRel.hi {p low high : Int} (h : BsRel p low high) (hl : low < high) (hp : ¬ p ≤ sq ((low + high) / 2)) : BsRel p ((low + high) / 2 + 1) high := by
  obtain ⟨n, hn, e⟩ := h
  obtain ⟨m, rfl⟩ : ∃ m, n = m + 1 := ⟨n - 1, by omega⟩
  exact ⟨m, by omega, by rw [← e, bs_hi p m low high hl hp]⟩
theorem BsRel.end_ {p low high : Int} (h : BsRel p low high) (hl : high ≤ low) : st p = low := by
  obtain ⟨n, hn, e⟩ := h
  rw [← e, bs_end p n low high hl]
theorem c_stretched60 (p : Int) (w : World) (h : -9223372036854775808 ≤ p ∧ p ≤ 9223372036854775807) (hR : RowIs 0 .i64 w) :
    Calls Tryd.prog 19 #[.int .i64 p] w fun e w' => e = .returned (.int .i64 (st p)) ∧ ∃ nq, w' = w.drewN nq := by
  go_enter Tryd.func19, Tryd.ntmps19
  go_wp2_with (fail)
  go_loopw [3, 4] (fun lo hi wr => ∃ low high : Int, lo = .int .i64 low ∧ hi = .int .i64 high ∧ -2047 ≤ low ∧ low ≤ high ∧ high ≤ 2047 ∧ BsRel p low high ∧ ∃ nq, wr = w.drewN nq) (fun lo hi _ => (intOf hi - intOf lo).toNat)
  case atStart => exact ⟨-2047, 2047, rfl, rfl, by omega, by omega, by omega, BsRel.start p, 0, rfl⟩
  case round =>
    obtain ⟨low, high, rfl, rfl, h1, h2, h3, hrel, nq, rfl⟩ := hrel
    by_cases hlt : low < high
    · by_cases hp : p ≤ sq ((low + high) / 2)
      · go_wp2_with (first | (go_at_call 24; refine (c_floor60 _ _ _ (by omega) (by omega)).mono ?_; rintro e w' ⟨rfl, rfl⟩) | (go_at_call 17; refine (c_squashed60_any _ _ (by omega) (hR.drewN _)).mono ?_; rintro e w' ⟨rfl, nq2, rfl⟩))
        go_roundw
        case rel => exact ⟨low, (low + high) / 2, rfl, rfl, by omega, by omega, by omega, hrel.lo hlt hp, _, rfl⟩
        case measure => simp [intOf]; omega
      · go_wp2_with (first | (go_at_call 24; refine (c_floor60 _ _ _ (by omega) (by omega)).mono ?_; rintro e w' ⟨rfl, rfl⟩) | (go_at_call 17; refine (c_squashed60_any _ _ (by omega) (hR.drewN _)).mono ?_; rintro e w' ⟨rfl, nq2, rfl⟩))
        go_roundw
        case rel => exact ⟨(low + high) / 2 + 1, high, rfl, rfl, by omega, by omega, by omega, hrel.hi hlt (by omega), _, rfl⟩
        case measure => simp [intOf]; omega
    · have he := hrel.end_ (by omega)
      have HE := Lib.hid he
      clear he
      go_wp2_with (fail)
      go_ret
      exact ⟨ret_int HE.out.symm, _, rfl⟩
theorem c_Stretch1 (p i : Int) (g : Nat) (w : World) (h : -2147483648 ≤ p ∧ p ≤ 2147483647) (hi : 0 ≤ i ∧ i ≤ 4094) (hR : RowIs 1 .i32 w) (hc : w.cell? ⟨g, 0, none⟩ = some (.int .i32 p)) :
    Calls Tryd.prog 124 #[.int .i64 i, .pointer (some ⟨g, 0, none⟩)] w fun e w' => e = .returned (.bool (decide (p ≤ sq (i - 2047)))) ∧ ∃ nq, w' = w.drewN nq := by
  go_enter Tryd.func124, Tryd.ntmps124
  go_wp2_with (fail)
  go_quiet ((go_at_call 16; refine Calls.quiet_of (c_Squash_any _ _ (by omega) (hR.drewN _))))
  go_wp2
  go_ret
  exact ⟨rfl, nq, rfl⟩
theorem c_Search (p : Int) (g : Nat) (w : World) (h : -2147483648 ≤ p ∧ p ≤ 2147483647) (hR : RowIs 1 .i32 w) (hc : w.cell? ⟨g, 0, none⟩ = some (.int .i32 p)) :
    Calls Tryd.prog 123 #[.int .i64 4094, .func (.func 124) #[] #[.pointer (some ⟨g, 0, none⟩)]] w fun e w' => e = .returned (.int .i64 (st p + 2047)) ∧ ∃ nq, w' = w.drewN nq := by
  go_enter Tryd.func123, Tryd.ntmps123
  go_wp2_with (fail)
  go_loopw [5, 6] (fun lo hi wr => ∃ i j : Int, lo = .int .i64 i ∧ hi = .int .i64 j ∧ 0 ≤ i ∧ i ≤ j ∧ j ≤ 4094 ∧ BsRel p (i - 2047) (j - 2047) ∧ ∃ nq, wr = w.drewN nq) (fun lo hi _ => (intOf hi - intOf lo).toNat)
  case atStart => exact ⟨0, 4094, rfl, rfl, by omega, by omega, by omega, BsRel.start p, 0, rfl⟩
  case round =>
    obtain ⟨i, j, rfl, rfl, h1, h2, h3, hrel, nq, rfl⟩ := hrel
    by_cases hlt : i < j
    · have em : (i - 2047 + (j - 2047)) / 2 = (i + j) / 2 - 2047 := by omega
      have hlo := fun hp => hrel.lo (by omega) hp
      have hhi := fun hp => hrel.hi (by omega) hp
      rw [em] at hlo hhi
      have HLO := Lib.hid hlo
      have HHI := Lib.hid hhi
      clear hlo hhi em
      by_cases hp : p ≤ sq ((i + j) / 2 - 2047)
      · have hd : decide (p ≤ sq ((i + j) / 2 - 2047)) = true := by simpa using hp
        go_wp2_with (first | (go_at_call 124; refine (c_Stretch1 p _ g _ h (by omega) (hR.drewN _) (by simpa using hc)).mono ?_; rintro e w' ⟨rfl, nq2, rfl⟩))
        go_roundw
        case rel => exact ⟨i, (i + j) / 2, rfl, rfl, by omega, by omega, by omega, HLO.out hp, _, rfl⟩
        case measure => simp [intOf]; omega
      · have hd : decide (p ≤ sq ((i + j) / 2 - 2047)) = false := by simpa using hp
        go_wp2_with (first | (go_at_call 124; refine (c_Stretch1 p _ g _ h (by omega) (hR.drewN _) (by simpa using hc)).mono ?_; rintro e w' ⟨rfl, nq2, rfl⟩))
        go_roundw
        case rel => exact ⟨(i + j) / 2 + 1, j, rfl, rfl, by omega, by omega, by omega, by have := HHI.out (by omega); rwa [show (i + j) / 2 + 1 - 2047 = (i + j) / 2 - 2047 + 1 by omega], _, rfl⟩
        case measure => simp [intOf]; omega
    · have he := hrel.end_ (by omega)
      have HE := Lib.hid he
      clear he
      go_wp2_with (fail)
      go_ret
      exact ⟨ret_int (by have := HE.out; omega), _, rfl⟩
theorem c_Stretch (p : Int) (w : World) (h : -2147483648 ≤ p ∧ p ≤ 2147483647) (hR : RowIs 1 .i32 w) :
    Calls Tryd.prog 18 #[.int .i32 p] w fun e w' => e = .returned (.int .i32 (st p)) ∧ Below w.heap.size w w' := by
  have hs := st_rg p
  have hb := below_alloc w (Obj.cells #[Value.int IntKind.i32 p] 21)
  have hc : (w.alloc (Obj.cells #[Value.int IntKind.i32 p] 21)).cell? ⟨w.heap.size, 0, none⟩ = some (.int .i32 p) := by simp [World.cell?_alloc_new]
  go_enter Tryd.func18, Tryd.ntmps18
  go_wp2_with (first | (go_at_call 123; refine (c_Search p _ _ h (hR.alloc _) hc).mono ?_; rintro e w' ⟨rfl, nq2, rfl⟩))
  go_ret
  exact ⟨ret_int (by omega), below_drewN' hb _⟩
end Go.Proofs.YthkdojmamejkaaaDoor
