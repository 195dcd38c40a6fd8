/- Contracts of the package fixed and of recip, and small words on memory. -/
import Derived.Test.YthkdojmamejkaaaDoorProg
import Derived.WalkKit
import Derived.WalkLawsBesides
import Derived.WalkSpells
import Derived.Deep.QuietTactic
import Derived.BigQuiet
import Derived.Deep.LoopGhost
import Derived.Deep.DeepFit
import Derived.Deep.DeepMust
import Derived.Lib.Hide
import Derived.Handy
import Derived.Deep.Light
import Derived.Laws.CopyOwn
import Derived.Deep.DeepCutAuto
import Derived.Deep.CutBlock
import Derived.Outline
set_option linter.unusedVariables false
set_option linter.unusedSimpArgs false
namespace Go.Proofs.YthkdojmamejkaaaDoor
open Go.RowKit
/-! ### Memory: one block known whole; slices that read as lists -/
def Bk (w : World) (g : Nat) (t : TypeId) (cs : Array Value) : Prop := w.heap[g]? = some (.cells cs t (0, 0))
section
variable {w w' : World} {g : Nat} {t : TypeId} {cs : Array Value}
theorem Bk.lt (h : Bk w g t cs) : g < w.heap.size := (Array.getElem?_eq_some_iff.1 h).1
theorem Bk.cell (h : Bk w g t cs) (i : Nat) : w.cell? ⟨g, i, none⟩ = cs[i]? := cell_of_row w g i cs t (0, 0) h
theorem Bk.free (h : Bk w g t cs) (i : Nat) : w.frozen? ⟨g, i, none⟩ = false := frozen_of_row w g i cs t h
theorem Bk.new (w : World) (t : TypeId) (cs : Array Value) : Bk (w.alloc (.cells cs t)) w.heap.size t cs := heap_alloc_new w _
theorem Bk.draw (h : Bk w g t cs) (n : Nat) : Bk (w.drewN n) g t cs := h
theorem Bk.old (h : Bk w g t cs) (o : Obj) : Bk (w.alloc o) g t cs := (Below.heap_alloc w o g h.lt).trans h
theorem Bk.put (h : Bk w g t cs) (i : Nat) (u : Value) : Bk (w.setCell ⟨g, i, none⟩ u) g t (cs.setIfInBounds i u) := heap_setCell_same w g i cs t u h
theorem Bk.away (h : Bk w g t cs) (a : Addr) (u : Value) (ha : g ≠ a.block) : Bk (w.setCell a u) g t cs := (heap_setCell_other w a g u ha).trans h
theorem Bk.below {B : Nat} (h : Bk w g t cs) (hb : Below B w w') (hg : g < B) : Bk w' g t cs := (hb.block g hg).trans h
theorem Bk.grow (h : Bk w g t cs) (hb : Below w.heap.size w w') : Bk w' g t cs := (hb.block g h.lt).trans h
end
theorem below_alloc (w : World) (o : Obj) : Below w.heap.size w (w.alloc o) := (Below.refl _ _).alloc (Nat.le_refl _) _
theorem below_drewN' {B : Nat} {a w : World} (h : Below B a w) (n : Nat) : Below B a (w.drewN n) := ⟨h.os, h.tape, h.output, h.size, h.block⟩
theorem below_step {a b c : World} (h : Below a.heap.size a b) (k : Below b.heap.size b c) : Below a.heap.size a c := h.trans (k.mono h.size)
theorem below_drawn (w : World) (n : Nat) : Below w.heap.size w (w.drewN n) := below_drewN' (Below.refl _ _) n
theorem below_cell {w w' : World} (hb : Below w.heap.size w w') {a : Addr} {v : Value} (hc : w.cell? a = some v) : w'.cell? a = some v :=
  (hb.cell (World.block_lt_of_cell? w a hc)).trans hc
/-- The cells that were there are there, and no more frozen than they were. -/
theorem below_cells {w w' : World} (hb : Below w.heap.size w w') : (∀ b o, b < w.heap.size → w'.cell? ⟨b, o, none⟩ = w.cell? ⟨b, o, none⟩) ∧ (∀ b o, b < w.heap.size → w'.frozen? ⟨b, o, none⟩ = w.frozen? ⟨b, o, none⟩) :=
  ⟨fun b o h => hb.cell (p := ⟨b, o, none⟩) h, fun b o h => hb.frozen (p := ⟨b, o, none⟩) h⟩
theorem ret_int {k : IntKind} {a b : Int} (h : a = b) : Ending.returned (.int k a) = .returned (.int k b) := by rw [h]
theorem ret_int2 {k k' : IntKind} {a b a' b' : Int} (h : a = b) (h' : a' = b') : Ending.returned (.tuple #[.int k a, .int k' a']) = .returned (.tuple #[.int k b, .int k' b']) := by rw [h, h']

def sat (n : Int) : Int := max (-2147483648) (min n 2147483647)
theorem sat_rg (n : Int) : -2147483648 ≤ sat n ∧ sat n ≤ 2147483647 := by unfold sat; omega

theorem c_Sat (n : Int) (w : World) (h : -9223372036854775808 ≤ n ∧ n ≤ 9223372036854775807) :
    Calls Tryd.prog 9 #[.int .i64 n] w fun e w' => e = .returned (.int .i32 (sat n)) ∧ w = w' := by
  go_enter Tryd.func9, Tryd.ntmps9
  go_wp2
  all_goals go_ret
  all_goals exact ⟨ret_int (by unfold sat; omega), rfl⟩
theorem c_saturated60 (n : Int) (w : World) (h : -9223372036854775808 ≤ n ∧ n ≤ 9223372036854775807) :
    Calls Tryd.prog 10 #[.int .i64 n] w fun e w' => e = .returned (.int .i32 (sat n)) ∧ w = w' := by
  go_enter Tryd.func10, Tryd.ntmps10
  go_wp2
  all_goals go_ret
  all_goals exact ⟨ret_int (by unfold sat; omega), rfl⟩
theorem c_Add (a b : Int) (w : World) (ha : -2147483648 ≤ a ∧ a ≤ 2147483647) (hb : -2147483648 ≤ b ∧ b ≤ 2147483647) :
    Calls Tryd.prog 11 #[.int .i32 a, .int .i32 b] w fun e w' => e = .returned (.int .i32 (sat (a + b))) ∧ w = w' := by
  go_enter Tryd.func11, Tryd.ntmps11
  go_wp2_with (go_at_call 9; refine (c_Sat _ _ (by omega)).mono ?_; rintro e w' ⟨rfl, rfl⟩)
  go_ret
  exact ⟨rfl, rfl⟩
theorem c_Sub (a b : Int) (w : World) (ha : -2147483648 ≤ a ∧ a ≤ 2147483647) (hb : -2147483648 ≤ b ∧ b ≤ 2147483647) :
    Calls Tryd.prog 12 #[.int .i32 a, .int .i32 b] w fun e w' => e = .returned (.int .i32 (sat (a - b))) ∧ w = w' := by
  go_enter Tryd.func12, Tryd.ntmps12
  go_wp2_with (go_at_call 9; refine (c_Sat _ _ (by omega)).mono ?_; rintro e w' ⟨rfl, rfl⟩)
  go_ret
  exact ⟨rfl, rfl⟩
theorem mul_rg (a b : Int) (ha : -2147483648 ≤ a ∧ a ≤ 2147483647) (hb : -2147483648 ≤ b ∧ b ≤ 2147483647) :
    -4611686018427387904 ≤ a * b ∧ a * b ≤ 4611686018427387904 := by
  have h : (a * b).natAbs ≤ 4611686018427387904 := by
    rw [Int.natAbs_mul]
    calc a.natAbs * b.natAbs ≤ 2147483648 * 2147483648 := Nat.mul_le_mul (by omega) (by omega)
      _ = _ := rfl
  omega
theorem c_Mul (a b : Int) (w : World) (ha : -2147483648 ≤ a ∧ a ≤ 2147483647) (hb : -2147483648 ≤ b ∧ b ≤ 2147483647) :
    Calls Tryd.prog 13 #[.int .i32 a, .int .i32 b] w fun e w' => e = .returned (.int .i32 (sat (a * b))) ∧ w = w' := by
  have hm := mul_rg a b ha hb
  go_enter Tryd.func13, Tryd.ntmps13
  go_wp2_with (go_at_call 9; refine (c_Sat _ _ (by omega)).mono ?_; rintro e w' ⟨rfl, rfl⟩)
  go_ret
  exact ⟨rfl, rfl⟩
/-- Rounding by k places, k at least 1, as the machine reckons it. -/
def rndk (n k : Int) : Int := wrap64 (n / 2 ^ k.toNat + bits BinOp.and IntKind.i64 (n / 2 ^ (k.toNat - 1)) 1)
def rnd (n k : Int) : Int := if k = 0 then n else rndk n k
theorem c_Round_no (n k : Int) (w : World) (h : -9223372036854775808 ≤ n ∧ n ≤ 9223372036854775807) (hk : k < 0 ∨ 62 < k) :
    Calls Tryd.prog 14 #[.int .i64 n, .int .i64 k] w fun e w' => e = .returned (.tuple #[.int .i64 0, .int .i64 2]) ∧ w = w' := by
  rcases hk with hk | hk
  · go_enter Tryd.func14, Tryd.ntmps14
    go_wp2
    go_ret2
    exact ⟨rfl, rfl⟩
  · go_enter Tryd.func14, Tryd.ntmps14
    go_wp2
    go_ret2
    exact ⟨rfl, rfl⟩
theorem c_Round_0 (n : Int) (w : World) (h : -9223372036854775808 ≤ n ∧ n ≤ 9223372036854775807) :
    Calls Tryd.prog 14 #[.int .i64 n, .int .i64 0] w fun e w' => e = .returned (.tuple #[.int .i64 n, .int .i64 0]) ∧ w = w' := by
  go_enter Tryd.func14, Tryd.ntmps14
  go_wp2
  go_ret2
  exact ⟨rfl, rfl⟩
theorem c_Round_k (n k : Int) (w : World) (h : -9223372036854775808 ≤ n ∧ n ≤ 9223372036854775807) (hk : 1 ≤ k) (hk2 : k ≤ 62):
    Calls Tryd.prog 14 #[.int .i64 n, .int .i64 k] w fun e w' => e = .returned (.tuple #[.int .i64 (rndk n k), .int .i64 0]) ∧ ∃ nq, w' = w.drewN nq := by
  go_enter Tryd.func14, Tryd.ntmps14
  go_wp2
  go_quiet (fail)
  go_wp2
  go_ret2
  exact ⟨rfl, _, rfl⟩
/-! ### recip -/
theorem c_Of_no (n : Int) (w : World) (h : -2147483648 ≤ n ∧ n ≤ 2147483647) (hk : n < 1 ∨ 1024 < n) :
    Calls Tryd.prog 21 #[.int .i32 n] w fun e w' => e = .returned (.tuple #[.int .i32 0, .int .i64 2]) ∧ w = w' := by
  rcases hk with hk | hk
  · go_enter Tryd.func21, Tryd.ntmps21
    go_wp2
    go_ret2
    exact ⟨rfl, rfl⟩
  · go_enter Tryd.func21, Tryd.ntmps21
    go_wp2
    go_ret2
    exact ⟨rfl, rfl⟩
theorem c_Of (n : Int) (w : World) (h : 1 ≤ n ∧ n ≤ 1024) :
    Calls Tryd.prog 21 #[.int .i32 n] w fun e w' => e = .returned (.tuple #[.int .i32 (65536 / n), .int .i64 0]) ∧ w = w' := by
  go_enter Tryd.func21, Tryd.ntmps21
  go_wp2
  go_ret2
  exact ⟨rfl, rfl⟩
theorem rec_rg (n : Int) (h : 1 ≤ n ∧ n ≤ 1024) : 64 ≤ 65536 / n ∧ 65536 / n ≤ 65536 := by
  refine ⟨?_, ?_⟩
  · exact (Int.le_ediv_iff_mul_le (by omega)).2 (by omega)
  · exact Int.ediv_le_self _ (by omega)
def rdiv (x n : Int) : Int := x * (65536 / n) / 65536
theorem mulr_rg (x r lo hi R : Int) (hR : 0 ≤ r ∧ r ≤ R) (h0 : lo ≤ 0 ∧ 0 ≤ hi) (hx : lo ≤ x ∧ x ≤ hi) : lo * R ≤ x * r ∧ x * r ≤ hi * R := by
  have h1 := Int.mul_le_mul_of_nonneg_right hx.1 hR.1
  have h2 := Int.mul_le_mul_of_nonneg_right hx.2 hR.1
  have h3 := Int.mul_le_mul_of_nonneg_left hR.2 h0.2
  have h4 := Int.mul_le_mul_of_nonpos_left h0.1 hR.2
  omega
theorem rmul_rg (x n lo hi : Int) (h : 1 ≤ n ∧ n ≤ 1024) (h0 : lo ≤ 0 ∧ 0 ≤ hi) (hx : lo ≤ x ∧ x ≤ hi) : lo * 65536 ≤ x * (65536 / n) ∧ x * (65536 / n) ≤ hi * 65536 :=
  mulr_rg x _ lo hi 65536 (by have := rec_rg n h; omega) h0 hx
theorem rdiv_rg (x n lo hi : Int) (h : 1 ≤ n ∧ n ≤ 1024) (h0 : lo ≤ 0 ∧ 0 ≤ hi) (hx : lo ≤ x ∧ x ≤ hi) : lo ≤ rdiv x n ∧ rdiv x n ≤ hi := by
  have hm := rmul_rg x n lo hi h h0 hx
  unfold rdiv
  omega
theorem c_Div_no (x n : Int) (w : World) (h : -2147483648 ≤ n ∧ n ≤ 2147483647) (hk : n < 1 ∨ 1024 < n) (hx : -2147483648 ≤ x ∧ x ≤ 2147483647) :
    Calls Tryd.prog 22 #[.int .i32 x, .int .i32 n] w fun e w' => e = .returned (.tuple #[.int .i32 0, .int .i64 2]) ∧ w = w' := by
  go_enter Tryd.func22, Tryd.ntmps22
  go_wp2_with (go_at_call 21; refine (c_Of_no _ _ h hk).mono ?_; rintro e w' ⟨rfl, rfl⟩)
  go_ret2
  exact ⟨rfl, rfl⟩
theorem c_Div (x n : Int) (w : World) (h : 1 ≤ n ∧ n ≤ 1024) (hx : -2147483648 ≤ x ∧ x ≤ 2147483647) :
    Calls Tryd.prog 22 #[.int .i32 x, .int .i32 n] w fun e w' => e = .returned (.tuple #[.int .i32 (rdiv x n), .int .i64 0]) ∧ w = w' := by
  have hm := rmul_rg x n (-2147483648) 2147483647 h (by omega) (by omega)
  have hr := rec_rg n h
  go_enter Tryd.func22, Tryd.ntmps22
  go_wp2_with (go_at_call 21; refine (c_Of _ _ h).mono ?_; rintro e w' ⟨rfl, rfl⟩)
  go_ret2
  exact ⟨rfl, rfl⟩
theorem c_Step_no (p t n : Int) (w : World) (h : -2147483648 ≤ n ∧ n ≤ 2147483647) (hp : -2147483648 ≤ p ∧ p ≤ 2147483647) (ht : -2147483648 ≤ t ∧ t ≤ 2147483647)
    (hk : (n < 1 ∨ 1024 < n) ∨ p < 0 ∨ t < 0 ∨ 65535 < p ∨ 65535 < t) :
    Calls Tryd.prog 23 #[.int .i32 p, .int .i32 t, .int .i32 n] w fun e w' => e = .returned (.tuple #[.int .i32 0, .int .i64 2]) ∧ w = w' := by
  by_cases hk2 : p < 0 ∨ t < 0 ∨ 65535 < p ∨ 65535 < t
  · go_enter Tryd.func23, Tryd.ntmps23
    go_wp2_with (fail)
    all_goals (go_ret2; exact ⟨rfl, rfl⟩)
  · have hk3 : n < 1 ∨ 1024 < n := by omega
    have hp : 0 ≤ p ∧ p ≤ 65535 := by omega
    have ht : 0 ≤ t ∧ t ≤ 65535 := by omega
    clear hk hk2
    go_enter Tryd.func23, Tryd.ntmps23
    go_wp2_with (go_at_call 22; refine (c_Div_no _ _ _ h hk3 (by omega)).mono ?_; rintro e w' ⟨rfl, rfl⟩)
    all_goals (go_ret2; exact ⟨rfl, rfl⟩)
theorem c_Step (p t n : Int) (w : World) (h : 1 ≤ n ∧ n ≤ 1024) (hp : 0 ≤ p ∧ p ≤ 65535) (ht : 0 ≤ t ∧ t ≤ 65535) :
    Calls Tryd.prog 23 #[.int .i32 p, .int .i32 t, .int .i32 n] w fun e w' => e = .returned (.tuple #[.int .i32 (p + rdiv (t - p) n), .int .i64 0]) ∧ w = w' := by
  have hd := rdiv_rg (t - p) n (-65535) 65535 h (by omega) (by omega)
  go_enter Tryd.func23, Tryd.ntmps23
  go_wp2_with (go_at_call 22; refine (c_Div _ _ _ h (by omega)).mono ?_; rintro e w' ⟨rfl, rfl⟩)
  all_goals (go_ret2; exact ⟨rfl, rfl⟩)
theorem floor_eq (n b : Int) (h : 1 ≤ b) : n / b = n.tdiv b - if n.tmod b < 0 then 1 else 0 := by
  rw [Int.ediv_eq_tdiv]
  have hs : b.sign = 1 := Int.sign_eq_one_of_pos (by omega)
  by_cases h0 : 0 ≤ n
  · have := Int.tmod_nonneg b h0
    rw [if_pos (.inl h0), if_neg (by omega)]
  · by_cases hd : b ∣ n
    · have : n.tmod b = 0 := Int.tmod_eq_zero_of_dvd hd
      rw [if_pos (.inr hd), this]; simp
    · have h1 : 0 ≤ (-n).tmod b := Int.tmod_nonneg b (by omega)
      rw [Int.neg_tmod] at h1
      have h2 : n.tmod b ≠ 0 := fun e => hd (Int.dvd_of_tmod_eq_zero e)
      rw [if_neg (by rintro (h | h) <;> contradiction), if_pos (by omega), hs]
theorem c_floor60 (n b : Int) (w : World) (h : 1 ≤ b ∧ b ≤ 9223372036854775807) (hx : -9223372036854775808 ≤ n ∧ n ≤ 9223372036854775807) :
    Calls Tryd.prog 24 #[.int .i64 n, .int .i64 b] w fun e w' => e = .returned (.int .i64 (n / b)) ∧ w = w' := by
  have hd := floor_eq n b h.1
  have h2 : -9223372036854775808 ≤ n / b ∧ n / b ≤ 9223372036854775807 :=
    ⟨(Int.le_ediv_iff_mul_le (by omega)).2 (by omega), Int.le_of_lt_add_one ((Int.ediv_lt_iff_lt_mul (by omega)).2 (by omega))⟩
  have HD := Lib.hid hd
  clear hd
  go_enter Tryd.func24, Tryd.ntmps24
  go_wp2_with (fail)
  all_goals go_ret
  all_goals refine ⟨ret_int ?_, rfl⟩
  all_goals have hd := HD.out
  · rw [if_pos (by assumption)] at hd
    rw [IntWalk.wrap64_in _ (by omega), hd]
  · rw [if_neg (by omega)] at hd
    omega
end Go.Proofs.YthkdojmamejkaaaDoor
