/- TopReckoned walked whole. -/
import Derived.Test.YthkdojmamejkaaaDoorQ6
import Derived.Test.YthkdojmamejkaaaDoorProg
import Derived.WalkKit
import Derived.WalkLawsBesides
import Derived.WalkSpells
import Derived.Deep.QuietTactic
import Derived.BigQuiet
import Derived.Deep.LoopGhost
import Derived.Deep.DeepFit
import Derived.Deep.DeepMust
import Derived.Lib.Hide
import Derived.Handy
import Derived.Deep.Light
import Derived.Laws.CopyOwn
import Derived.Deep.DeepCutAuto
import Derived.Deep.CutBlock
import Derived.Outline
set_option linter.unusedVariables false
set_option linter.unusedSimpArgs false
namespace Go.Proofs.YthkdojmamejkaaaDoor
open Go.RowKit
set_option maxHeartbeats 4000000 in
set_option maxRecDepth 100000 in
theorem c_TopReckoned (a b wide k : Int) (A B S : Option Addr) (nl cl nm cm ns cs : Nat) (xs ys ss : List Int) (n p target kind bt : Int) (w : World)
    (ha : -2147483648 ≤ a ∧ a ≤ 2147483647) (hb : -2147483648 ≤ b ∧ b ≤ 2147483647) (hw : -9223372036854775808 ≤ wide ∧ wide ≤ 9223372036854775807) (hk : -9223372036854775808 ≤ k ∧ k ≤ 9223372036854775807)
    (hn : -2147483648 ≤ n ∧ n ≤ 2147483647) (hp : -2147483648 ≤ p ∧ p ≤ 2147483647) (htg : -2147483648 ≤ target ∧ target ≤ 2147483647) (hkd : -9223372036854775808 ≤ kind ∧ kind ≤ 9223372036854775807) (hbt : 0 ≤ bt ∧ bt ≤ 255)
    (hx : RdI w .i32 A nl xs) (hy : RdI w .i32 B nm ys) (hs : RdI w .u8 S ns ss) (rx : InI32 (xs.take 20)) (ry : InI32 (ys.take 20)) (rs : InK8 (ss.take 40)) (hR0 : RowIs 0 .i64 w) (hR1 : RowIs 1 .i32 w) (hT : w.cell? ⟨3, 2, none⟩ = some (.int .u64 65535)) (hcl : nl ≤ cl) (hcm : nm ≤ cm) (hcs : ns ≤ cs) :
    Calls Tryd.prog 3 #[.int .i32 a, .int .i32 b, .int .i64 wide, .int .i64 k, .slice A nl cl, .slice B nm cm, .int .i32 n, .int .i32 p, .int .i32 target, .int .i64 kind, .slice S ns cs, .int .u8 bt] w
      fun e w' => e = .returned (.bool true) ∧ Below w.heap.size w w' := by
  have hm := mul_rg a b ha hb
  have b1 := hx.2.1
  have b2 := hy.2.1
  have b3 := hs.2.1
  go_enter Tryd.func3, Tryd.ntmps3
  go_upto_region 1 with fail
  go_cut [4, 5, 10] from 54 to 68 (fun s4 s5 s10 wr => s4 = .slice A (min nl 20) cl ∧ s5 = .slice B (min nm 20) cm ∧ s10 = .slice S (min ns 40) cs ∧ ∃ nq, wr = w.drewN nq)
  case first =>
    go_quiet (fail)
    go_wp2_with (fail)
    all_goals
      go_meet
      case rel => go_light; exact ⟨slice_eq (by omega), slice_eq (by omega), slice_eq (by omega), _, rfl⟩
  case rest =>
    obtain ⟨rfl, rfl, rfl, nq, rfl⟩ := hcut
    have hx := hx.take 20
    have hy := hy.take 20
    have hs := hs.take 40
    go_upto_region 5 with (first | (go_at_call 9; refine (c_Sat _ _ (by omega)).mono ?_; rintro e w' ⟨rfl, rfl⟩) | (go_at_call 10; refine (c_saturated60 _ _ (by omega)).mono ?_; rintro e w' ⟨rfl, rfl⟩) | (go_at_call 11; refine (c_Add _ _ _ ha hb).mono ?_; rintro e w' ⟨rfl, rfl⟩) | (go_at_call 12; refine (c_Sub _ _ _ ha hb).mono ?_; rintro e w' ⟨rfl, rfl⟩) | (go_at_call 13; refine (c_Mul _ _ _ ha hb).mono ?_; rintro e w' ⟨rfl, rfl⟩))
    go_upto_region 6 with (go_at_call 14; refine (c_Round_any _ _ _ hw hk).mono ?_; rintro e w' ⟨rfl, nq2, rfl⟩)
    go_cut [119] from 114 to 119 (fun s wr => s = .bool (decide (k < 0 ∨ 62 < k)) ∧ ∃ nq, wr = w.drewN nq)
    case first =>
      go_wp2_with (fail)
      all_goals
        go_meet
        case rel => go_light; exact ⟨by simp; try omega, _, rfl⟩
    case rest =>
    obtain ⟨rfl, nq3, rfl⟩ := hcut
    go_upto_if 119 with fail
    go_cut [29] from 27 to 29 (fun s29 wr => ∃ nq, wr = w.drewN nq)
    case first =>
      by_cases h1 : k < 0 ∨ 62 < k
      · have e1 : rndE k = 2 := if_pos h1
        have e2 : rndV wide k = 0 := if_pos h1
        have e3 : decide (k < 0 ∨ 62 < k) = true := by simpa using h1
        go_wp2_with (fail)
        go_meet
        case rel => exact ⟨_, rfl⟩
      · have e1 : rndE k = 0 := if_neg h1
        have e3 : decide (k < 0 ∨ 62 < k) = false := by simpa using h1
        by_cases h0 : k = 0
        · have e2 : rndV wide k = wide := by unfold rndV; rw [if_neg h1, if_pos h0]
          subst h0
          go_wp2_with (fail)
          go_meet
          case rel => exact ⟨_, rfl⟩
        · have e2 : rndV wide k = wrap64 (wide / 2 ^ k.toNat + bits BinOp.and IntKind.i64 (wide / 2 ^ (k.toNat - 1)) 1) := by unfold rndV; rw [if_neg h1, if_neg h0]; rfl
          have hk1 : 1 ≤ k := by omega
          have hk2 : k ≤ 62 := by omega
          clear h1 h0
          go_wp2_with (fail)
          go_quiet (fail)
          go_wp2_with (fail)
          go_meet
          case rel => exact ⟨_, rfl⟩
    case rest =>
    obtain ⟨nq4, rfl⟩ := hcut
    go_step
    exact TR6 a b wide A B S (min nl 20) (min nm 20) (min ns 40) cl cm cs (xs.take 20) (ys.take 20) (ss.take 40) n p target kind bt w (w.drewN nq4) ha hb hw hn hp htg hkd hbt (hx.drewN nq4) (hy.drewN nq4) rx ry (by omega) (by omega) (hs.drewN nq4) rs (by omega) (hR0.drewN nq4) (hR1.drewN nq4) hT (below_drawn w nq4)
end Go.Proofs.YthkdojmamejkaaaDoor
