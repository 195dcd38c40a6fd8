/- The contract of the run of counts. -/
import Derived.Test.YthkdojmamejkaaaDoorK
import Derived.Test.YthkdojmamejkaaaDoorProg
import Derived.WalkKit
import Derived.WalkLawsBesides
import Derived.WalkSpells
import Derived.Deep.QuietTactic
import Derived.BigQuiet
import Derived.Deep.LoopGhost
import Derived.Deep.DeepFit
import Derived.Deep.DeepMust
import Derived.Lib.Hide
import Derived.Handy
import Derived.Deep.Light
import Derived.Laws.CopyOwn
import Derived.Deep.DeepCutAuto
import Derived.Deep.CutBlock
import Derived.Outline
set_option linter.unusedVariables false
set_option linter.unusedSimpArgs false
namespace Go.Proofs.YthkdojmamejkaaaDoor
open Go.RowKit
def Cnt.run (c : Cnt) (xs : List Int) : Cnt := xs.foldl Cnt.aft c
theorem Cnt.Ok.run {c : Cnt} (h : c.Ok) (xs : List Int) : (c.run xs).Ok := by
  unfold Cnt.run
  induction xs generalizing c with
  | nil => exact h
  | cons x xs ih => exact ih (h.aft x)
theorem Cnt.run_snoc (c : Cnt) (xs : List Int) (k : Nat) (hk : k < xs.length) : c.run (xs.take (k + 1)) = (c.run (xs.take k)).aft (xs.getD k 0) := by
  rw [take_snoc' xs k hk]; unfold Cnt.run; rw [List.foldl_append]; rfl
/-- All are bits. -/
def Bits (xs : List Int) : Prop := ∀ j, xs.getD j 0 = 0 ∨ xs.getD j 0 = 1
theorem MaxOf.bits {xs : List Int} {k : Nat} {r : Int} (h : MaxOf xs k r) (hb : Bits xs) : r ≤ 1 := by
  obtain ⟨_, j, _, h2⟩ := h
  have := hb j
  omega
def RunRel (w : World) (c : Cnt) (xs : List Int) (n : Nat) (v : Value) (wr : World) : Prop :=
  ∃ k : Nat, k ≤ n ∧ v = .int .i64 k ∧ Bk wr w.heap.size 102 #[.int .i32 (c.run (xs.take k)).a, .int .i32 (c.run (xs.take k)).b, .int .u8 (c.run (xs.take k)).l] ∧
    Bk wr (w.heap.size + 1) 102 #[.int .i32 0, .int .i32 0, .int .u8 0] ∧ Below w.heap.size w wr
set_option maxHeartbeats 1000000 in
theorem c_cRun (c : Cnt) (A : Option Addr) (n cp : Nat) (xs : List Int) (w : World) (h : c.Ok) (hx : RdI w .u8 A n xs) (hb : Bits xs) (hn : n ≤ 20000) :
    Calls Tryd.prog 58 #[.agg #[.int .i32 c.a, .int .i32 c.b, .int .u8 c.l], .slice A n cp] w fun e w' => e = .returned (.tuple #[.agg #[.int .i32 (c.run xs).a, .int .i32 (c.run xs).b, .int .u8 (c.run xs).l], .int .i64 0]) ∧ Below w.heap.size w w' := by
  have hr : InK8 xs := fun j => by rcases hb j with h | h <;> omega
  have hl := hx.1
  by_cases h0 : 0 < n
  · go_enter Tryd.func58, Tryd.ntmps58
    go_wp2_with (fail)
    refine (c_cCheck c _ h).mono ?_
    rintro e w1 ⟨rfl, hb1⟩
    have hbw := below_step ((below_alloc w (Obj.cells #[Value.int IntKind.i32 c.a, Value.int IntKind.i32 c.b, Value.int IntKind.u8 c.l] 102)).alloc (by simp) (Obj.cells #[Value.int IntKind.i32 0, Value.int IntKind.i32 0, Value.int IntKind.u8 0] 102)) hb1
    have k0 := ((Bk.new w 102 #[Value.int IntKind.i32 c.a, Value.int IntKind.i32 c.b, Value.int IntKind.u8 c.l]).old (Obj.cells #[Value.int IntKind.i32 0, Value.int IntKind.i32 0, Value.int IntKind.u8 0] 102)).grow hb1
    have k1 := (Bk.new (w.alloc (Obj.cells #[Value.int IntKind.i32 c.a, Value.int IntKind.i32 c.b, Value.int IntKind.u8 c.l] 102)) 102 #[Value.int IntKind.i32 0, Value.int IntKind.i32 0, Value.int IntKind.u8 0]).grow hb1
    rw [World.size_alloc] at k1
    have hx1 := hx.below hbw
    clear hb1
    go_wp2_with (first | (go_at_call 142; refine (c_Max8 A n cp xs _ hx1 hr h0).mono ?_; rintro e w2 ⟨r, rfl, hm, nq, rfl⟩; have hr1 := hm.bits hb))
    go_loopw [33] (RunRel w c xs n) (fun v _ => n - (intOf v).toNat)
    case atStart => exact ⟨0, by omega, rfl, k0.draw _, k1.draw _, below_drewN' hbw _⟩
    case round =>
      obtain ⟨k, hk, rfl, k0, k1, hbw⟩ := hrel
      by_cases hlt : k < n
      · obtain ⟨ad, rfl, hc⟩ := (hx.below hbw).2.2 k hlt
        have hs := Cnt.run_snoc c xs k (by omega)
        have HS := Lib.hid hs
        have hok := Lib.hid (h.run (xs.take k))
        have hbk := Lib.hid (hb k)
        have c0 := k0.cell 0
        have c1 := k0.cell 1
        have c2 := k0.cell 2
        have f0 := k0.free
        clear hs
        generalize xs.getD k 0 = b at *
        generalize c.run (xs.take k) = d at *
        simp at c0 c1 c2
        go_wp2_with (fail)
        refine (c_cnext d b _ hok.out hbk.out).mono ?_
        rintro e w3 ⟨rfl, hb3⟩
        have k0' := k0.grow hb3
        have k1' := k1.grow hb3
        have hbw' := below_step hbw hb3
        have c0' := k0'.cell
        have f0' := k0'.free
        have q0 := k0'.put 0 (Value.int IntKind.i32 (d.aft b).a)
        have q1 := q0.put 1 (Value.int IntKind.i32 (d.aft b).b)
        have q2 := q1.put 2 (Value.int IntKind.u8 (d.aft b).l)
        have p2 := ((k1'.away ⟨w.heap.size, 0, none⟩ (Value.int IntKind.i32 (d.aft b).a) (by simp)).away ⟨w.heap.size, 1, none⟩ (Value.int IntKind.i32 (d.aft b).b) (by simp)).away ⟨w.heap.size, 2, none⟩ (Value.int IntKind.u8 (d.aft b).l) (by simp)
        have bw2 := ((hbw'.setCell (p := ⟨w.heap.size, 0, none⟩) (by simp) (Value.int IntKind.i32 (d.aft b).a)).setCell (p := ⟨w.heap.size, 1, none⟩) (by simp) (Value.int IntKind.i32 (d.aft b).b)).setCell (p := ⟨w.heap.size, 2, none⟩) (by simp) (Value.int IntKind.u8 (d.aft b).l)
        clear c0 c1 c2 f0 k0 k1 hbw k0' k1' hbw' hb3 q0 q1
        generalize hd : d.aft b = d' at *
        have HD := Lib.hid hd
        clear hd
        go_wp2_with (fail)
        go_roundw
        case rel => exact ⟨k + 1, by omega, by go_num, by rw [HS.out]; exact q2, p2, bw2⟩
        case measure => simp [intOf]; omega
      · obtain rfl : k = n := by omega
        have e : xs.take k = xs := List.take_of_length_le (by omega)
        rw [e] at k0
        clear e
        have c0 := k0.cell
        have f0 := k0.free
        have c1 := k1.cell
        have f1 := k1.free
        generalize hd : c.run xs = d at *
        have HD := Lib.hid hd
        clear hd
        have q2 := ((k1.put 0 (Value.int IntKind.i32 d.a)).put 1 (Value.int IntKind.i32 d.b)).put 2 (Value.int IntKind.u8 d.l)
        have qc := q2.cell
        have bw2 := ((hbw.setCell (p := ⟨w.heap.size + 1, 0, none⟩) (by simp) (Value.int IntKind.i32 d.a)).setCell (p := ⟨w.heap.size + 1, 1, none⟩) (by simp) (Value.int IntKind.i32 d.b)).setCell (p := ⟨w.heap.size + 1, 2, none⟩) (by simp) (Value.int IntKind.u8 d.l)
        have QC := Lib.hid qc
        clear q2 qc
        go_wp2_with (fail)
        exact bodyPost_ret (v := .tuple #[.agg #[.int .i32 d.a, .int .i32 d.b, .int .u8 d.l], .int .i64 0]) (by have qc := QC.out; simp [results, Tryd.results58, go_sem, qc]) rfl ⟨by rw [HD.out], bw2⟩
  · obtain rfl : n = 0 := by omega
    have hnil : xs = [] := List.eq_nil_of_length_eq_zero hl
    subst hnil
    go_enter Tryd.func58, Tryd.ntmps58
    go_wp2_with (fail)
    refine (c_cCheck c _ h).mono ?_
    rintro e w1 ⟨rfl, hb1⟩
    have hbw := below_step ((below_alloc w (Obj.cells #[Value.int IntKind.i32 c.a, Value.int IntKind.i32 c.b, Value.int IntKind.u8 c.l] 102)).alloc (by simp) (Obj.cells #[Value.int IntKind.i32 0, Value.int IntKind.i32 0, Value.int IntKind.u8 0] 102)) hb1
    have k0 := ((Bk.new w 102 #[Value.int IntKind.i32 c.a, Value.int IntKind.i32 c.b, Value.int IntKind.u8 c.l]).old (Obj.cells #[Value.int IntKind.i32 0, Value.int IntKind.i32 0, Value.int IntKind.u8 0] 102)).grow hb1
    have k1 := (Bk.new (w.alloc (Obj.cells #[Value.int IntKind.i32 c.a, Value.int IntKind.i32 c.b, Value.int IntKind.u8 c.l] 102)) 102 #[Value.int IntKind.i32 0, Value.int IntKind.i32 0, Value.int IntKind.u8 0]).grow hb1
    rw [World.size_alloc] at k1
    clear hb1
    have c0 := k0.cell
    have f0 := k0.free
    have c1 := k1.cell
    have f1 := k1.free
    have q2 := ((k1.put 0 (Value.int IntKind.i32 c.a)).put 1 (Value.int IntKind.i32 c.b)).put 2 (Value.int IntKind.u8 c.l)
    have qc := q2.cell
    have bw2 := ((hbw.setCell (p := ⟨w.heap.size + 1, 0, none⟩) (by simp) (Value.int IntKind.i32 c.a)).setCell (p := ⟨w.heap.size + 1, 1, none⟩) (by simp) (Value.int IntKind.i32 c.b)).setCell (p := ⟨w.heap.size + 1, 2, none⟩) (by simp) (Value.int IntKind.u8 c.l)
    have QC := Lib.hid qc
    clear q2 qc
    go_wp2_with (fail)
    go_rounds 1
    exact bodyPost_ret (v := .tuple #[.agg #[.int .i32 c.a, .int .i32 c.b, .int .u8 c.l], .int .i64 0]) (by have qc := QC.out; simp [results, Tryd.results58, go_sem, qc]) rfl ⟨rfl, bw2⟩
end Go.Proofs.YthkdojmamejkaaaDoor
