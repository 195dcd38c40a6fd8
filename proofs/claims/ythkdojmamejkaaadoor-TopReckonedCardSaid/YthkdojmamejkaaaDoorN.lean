/- Contracts of the run of states. -/
import Derived.Test.YthkdojmamejkaaaDoorL
import Derived.Test.YthkdojmamejkaaaDoorM
import Derived.Test.YthkdojmamejkaaaDoorProg
import Derived.WalkKit
import Derived.WalkLawsBesides
import Derived.WalkSpells
import Derived.Deep.QuietTactic
import Derived.BigQuiet
import Derived.Deep.LoopGhost
import Derived.Deep.DeepFit
import Derived.Deep.DeepMust
import Derived.Lib.Hide
import Derived.Handy
import Derived.Deep.Light
import Derived.Laws.CopyOwn
import Derived.Deep.DeepCutAuto
import Derived.Deep.CutBlock
import Derived.Outline
set_option linter.unusedVariables false
set_option linter.unusedSimpArgs false
namespace Go.Proofs.YthkdojmamejkaaaDoor
open Go.RowKit
theorem Bits.odd {xs : List Int} (h : Bits xs) : oddB xs = false := by
  unfold oddB
  rw [List.any_eq_false]
  intro x hx
  obtain ⟨j, hj, rfl⟩ := List.getElem_of_mem hx
  have := h j
  rw [List.getD_eq_getElem?_getD, List.getElem?_eq_getElem hj] at this
  simp at this ⊢
  omega
theorem c_sRun (s : Int) (A : Option Addr) (n cp : Nat) (xs : List Int) (w : World) (h : 0 ≤ s ∧ s < 193) (hx : RdI w .u8 A n xs) (hb : Bits xs) (hn : n ≤ 20000) :
    Calls Tryd.prog 65 #[.int .u8 s, .slice A n cp] w fun e w' => e = .returned (.tuple #[.int .u8 ((cntOf s).run xs).num, .int .i64 0]) ∧ Below w.heap.size w w' := by
  have hok := Lib.hid (cntOf_ok s h)
  have hok2 := Lib.hid ((cntOf_ok s h).run xs)
  have hr : InK8 xs := fun j => by rcases hb j with h | h <;> omega
  have hod := hb.odd
  go_enter Tryd.func65, Tryd.ntmps65
  go_wp2_with (fail)
  refine (c_Count s _ h).mono ?_
  rintro e w1 ⟨rfl, hb1⟩
  have hx1 := (hx.below hb1).below (below_alloc w1 (Obj.cells #[Value.int IntKind.i32 (cntOf s).a, Value.int IntKind.i32 (cntOf s).b, Value.int IntKind.u8 (cntOf s).l] 102))
  have k1 := Bk.new w1 102 #[Value.int IntKind.i32 (cntOf s).a, Value.int IntKind.i32 (cntOf s).b, Value.int IntKind.u8 (cntOf s).l]
  have bw := (hb1.alloc hb1.size (Obj.cells #[Value.int IntKind.i32 (cntOf s).a, Value.int IntKind.i32 (cntOf s).b, Value.int IntKind.u8 (cntOf s).l] 102))
  have hz := hb1.size
  clear hb1
  go_wp2_with (fail)
  refine (c_ContainsFunc144 A n cp xs _ hx1 hr).mono ?_
  rw [hod]
  rintro e w2 ⟨rfl, nq, rfl⟩
  go_wp2_with (fail)
  refine (c_cRun (cntOf s) A n cp xs _ hok.out (hx1.drewN _) hb hn).mono ?_
  rintro e w3 ⟨rfl, hb3⟩
  have k3 := (k1.draw nq).grow hb3
  have bw3 := below_step (below_drewN' bw nq) hb3
  clear k1 bw hb3 hx hx1
  have c0 := k3.cell
  have f0 := k3.free
  generalize hd : (cntOf s).run xs = d at *
  have HD := Lib.hid hd
  clear hd
  have q2 := ((k3.put 0 (Value.int IntKind.i32 d.a)).put 1 (Value.int IntKind.i32 d.b)).put 2 (Value.int IntKind.u8 d.l)
  have b2 := ((bw3.setCell (p := ⟨w1.heap.size, 0, none⟩) hz (Value.int IntKind.i32 d.a)).setCell (p := ⟨w1.heap.size, 1, none⟩) hz (Value.int IntKind.i32 d.b)).setCell (p := ⟨w1.heap.size, 2, none⟩) hz (Value.int IntKind.u8 d.l)
  clear k3 bw3
  go_wp2_with (fail)
  refine (c_number d _ hok2.out).mono ?_
  rintro e w4 ⟨rfl, hb4⟩
  have b4 := below_step b2 hb4
  clear b2 hb4 q2
  go_wp2_with (fail)
  go_ret2
  exact ⟨by rw [HD.out]; rfl, b4⟩
def bits1 (t : Int) : List Int := [t]
theorem bits_one (t : Int) (ht : t = 0 ∨ t = 1) : Bits [t] := fun j => by
  match j with
  | 0 => simpa using ht
  | j + 1 => simp
theorem c_sNext (s t : Int) (w : World) (h : 0 ≤ s ∧ s < 193) (ht : t = 0 ∨ t = 1) :
    Calls Tryd.prog 67 #[.int .u8 s, .int .u8 t] w fun e w' => e = .returned (.tuple #[.int .u8 ((cntOf s).aft t).num, .int .i64 0]) ∧ Below w.heap.size w w' := by
  have hb := below_alloc w (.cells #[.int .u8 t] 5)
  have HT := Lib.hid ht
  clear ht
  go_enter Tryd.func67, Tryd.ntmps67
  go_wp2_with (fail)
  refine (c_sRun s _ 1 1 [t] _ h (rdI_one w _ _ t) (bits_one t HT.out) (by omega)).mono ?_
  rintro e w1 ⟨rfl, hb1⟩
  have hb2 := below_step hb hb1
  clear hb1 hb
  go_wp2_with (fail)
  go_ret2
  exact ⟨rfl, hb2⟩
end Go.Proofs.YthkdojmamejkaaaDoor
