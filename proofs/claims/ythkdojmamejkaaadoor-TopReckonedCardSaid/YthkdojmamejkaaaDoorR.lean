/- From a row's reading to a contract's arguments and back. -/
import Derived.Test.YthkdojmamejkaaaDoorRows
import Derived.ProofKit
import Derived.Deep.DeepHandedRow
import Derived.Lib.LaidTab
import Derived.Stop.LaidErr
import Derived.Test.YthkdojmamejkaaaDoorPd
import Derived.Test.YthkdojmamejkaaaDoorProg
import Derived.WalkKit
import Derived.WalkLawsBesides
import Derived.WalkSpells
import Derived.Deep.QuietTactic
import Derived.BigQuiet
import Derived.Deep.LoopGhost
import Derived.Deep.DeepFit
import Derived.Deep.DeepMust
import Derived.Lib.Hide
import Derived.Handy
import Derived.Deep.Light
import Derived.Laws.CopyOwn
import Derived.Deep.DeepCutAuto
import Derived.Deep.CutBlock
import Derived.Outline
set_option linter.unusedVariables false
set_option linter.unusedSimpArgs false
namespace Go.Proofs.YthkdojmamejkaaaDoor
open Go.RowKit
open Go.ChangeShapes Go.WideShapes Go.ChangeAt Go.RowKit
theorem own : ownKnob Tryd.prog.godebug = none := by kernel_rfl
theorem laidOut : laidOutB Tryd.prog = true := by kernel_rfl
theorem gRow60 : Tryd.prog.globalNamed "bitloft/bitlofttop.row60" = some 0 := by kernel_rfl
theorem gRow : Tryd.prog.globalNamed "bitloft/squash.row" = some 1 := by kernel_rfl
theorem gTargets : Tryd.prog.globalNamed "bitloft/adapt.targets" = some 2 := by kernel_rfl
theorem gTops : Tryd.prog.globalNamed "bitloft/octet.tops" = some 3 := by kernel_rfl

section
variable {H : Type} {enc : TypeId × Value → H} {P : Program}
/-- All arguments read behind the call as they did, where below the heap's old size nothing has turned. -/
theorem trodAll_stays (hl : laidOutB P = true) {W W' : World} (hb : Below W.heap.size W W') {sp : Nat → Bool} :
    ∀ {ts : List TypeId} {vs : List Value} {ds : List (DataW H)} {ps : List MemPlace}, (∀ t ∈ ts, P.readableRec t = true ∧ t < P.types.size) →
      DataW.TrodAll enc P W 0 (fun _ => true) true ts vs ds ps → (∀ p ∈ ps, p.block < W.heap.size) → (∀ p ∈ ps, sp p.block = true) → DataW.TrodAll enc P W' 0 sp true ts vs ds ps
  | [], [], [], _, _, h, _, _ => h
  | t :: _, _ :: _, _ :: _, _, hT, ⟨p, q, h1, h2, e⟩, hlt, hs =>
    ⟨p, q, WideElems.Trod_stays hl (hT _ (List.mem_cons.2 (Or.inl rfl))).1 (hT _ (List.mem_cons.2 (Or.inl rfl))).2 h1 (fun x hx => hb.same (hlt x (by rw [e]; exact List.mem_append_left _ hx))) (fun x hx => hs x (by rw [e]; exact List.mem_append_left _ hx)),
      trodAll_stays hl hb (fun t ht => hT t (List.mem_cons.2 (Or.inr ht))) h2 (fun x hx => hlt x (by rw [e]; exact List.mem_append_right _ hx)) (fun x hx => hs x (by rw [e]; exact List.mem_append_right _ hx)), e⟩

/-- THE ROW's LAST STEP for a law that says 'true' and hands all its arguments back as they were. -/
theorem post_true {f : Func} {s : ChangeSpec} {tb : TypeId} {apart fresh handsOn again : Bool} {W W' : World} {args : Array Value} {ds gs : List (DataW H)} {before : List MemPlace} (hl : laidOutB P = true)
    (hW : DataW.Whole enc P f.params.toList s.vars apart W args.toList ds gs before) (hv : s.vars = []) (hr : f.resultTypes = #[tb]) (hbool : P.underlying tb = some .bool)
    (hT : ∀ t ∈ f.params.toList, P.readableRec t = true ∧ t < P.types.size)
    (h1 : (s.fn H (ds ++ gs)).results = [.lit (.bool true)]) (h2 : (s.fn H (ds ++ gs)).args = ds) (h3 : (s.fn H (ds ++ gs)).vars = []) (hb : Below W.heap.size W W') :
    s.post enc P f apart fresh handsOn again W args (.bool true) W' := by
  have hlt : ∀ p ∈ before, p.block < W.heap.size := fun p hp => hW.lt p hp
  have hW0 := hW
  obtain ⟨pa, pv, hA, hV, rfl, hz, hn⟩ := hW
  rw [hv] at hV
  obtain ⟨rfl, rfl⟩ := trodVars_none hV
  have hres : ∀ (b : Nat) (sp : Nat → Bool) (hd : Bool), DataW.TrodAll enc P W' b sp hd f.resultTypes.toList ((Value.bool true).resultList f.resultTypes.size) (s.fn H (ds ++ [])).results [] := by
    intro b sp hd
    rw [h1, hr]
    exact trodAll_cons_mk (shut_bool hbool true) trodAll_mk0
  have hargs : ∀ sp : Nat → Bool, (∀ p ∈ pa ++ [], sp p.block = true) → DataW.TrodAll enc P W' 0 sp true f.params.toList args.toList (s.fn H (ds ++ [])).args pa := by
    intro sp hs
    rw [h2]
    exact trodAll_stays hl hb hT hA (fun p hp => hlt p (by simp [hp])) (fun p hp => hs p (by simp [hp]))
  have hvars : ∀ sp : Nat → Bool, (∀ p ∈ pa ++ [], sp p.block = true) → DataW.TrodVars enc P W' sp s.vars (s.fn H (ds ++ [])).vars [] := by
    intro sp hs
    rw [h3, hv]
    exact rfl
  have hok : ∀ (j : Nat) (t : TypeId) (r : Value), f.resultTypes[j]? = some t → ((Value.bool true).resultList f.resultTypes.size)[j]? = some r → Value.okWide P W' .any 0 t r := by
    exact ok_one hr rfl (okWide_bool_mk hbool true)
  have hold : ∀ p ∈ pa ++ [], (fun b => decide (b < W.heap.size)) p.block = true := fun p hp => by simpa using hlt p hp
  refine ⟨ds, [], pa ++ [], [], pa, [], hW0, hres _ _ _, hargs _ hold, hvars _ hold, World.keptBut_mono (fun p hp => ⟨hp, Or.inr (by simpa using hp)⟩) (hb.frame (· ∈ pa ++ [])), fun _ => ?_⟩
  refine ⟨hok, _, _, ([] ++ pa) ++ [], ⟨[] ++ pa, [], trodAll_append (hargs _ (fun _ _ => rfl)) (hres _ _ _), hvars _ (fun _ _ => rfl), rfl, ?_, ?_⟩, ?_⟩
  · intro b off hp
    have hin : MemPlace.cell b off ∈ pa ++ [] := by simpa using hp
    rw [hb.frozen (hlt _ hin)]
    exact hz b off hin
  · intro ha
    simpa using hn ha
  · intro p hp _
    simpa using hp

theorem lits_length (k : IntKind) (zs : List Int) : (lits (H := H) k zs).length = zs.length := by simp [lits]
/-- A slice of whole numbers, opened: nil or not. -/
theorem open_rd {base : Nat} {t e : TypeId} {k : IntKind} {by' : Nat} {W : World} {v : Value} {d : DataW H} {ps : List MemPlace} {tsr : List TypeId} {dsr : List (DataW H)} (ht : P.underlying t = some (.slice e)) (he : P.underlying e = some (.int k)) (hc : P.cellsOf e = 1) (hby : P.bytesOf e = by')
    (hv : Value.okWide P W .any base t v) (h : DataW.Trod enc P W 0 (fun _ => true) true t v d ps) (hz : (DataW.weightsEach P (t :: tsr) (d :: dsr)).all (· ≤ reachBytes) = true) :
    ∃ (A : Option Addr) (n c : Nat) (xs : List Int), v = .slice A n c ∧ n ≤ c ∧ xs.length = n ∧ n * by' ≤ reachBytes ∧ (∀ j, j < n → ∃ ad, A = some ad ∧ W.cell? (ad.add j) = some (.int k (xs.getD j 0))) ∧ (∀ x ∈ xs, (Lit.int k x).wf = true) ∧
      (DataW.weightsEach P tsr dsr).all (· ≤ reachBytes) = true := by
  simp only [DataW.weightsEach, List.all_append, Bool.and_eq_true] at hz
  obtain ⟨hz1, hz2⟩ := hz
  obtain ⟨a0, n, c, rfl⟩ := Go.WideShapes.okWide_slice ht hv
  obtain ⟨fuel, hf⟩ := h
  rcases open_ints ht he hc hf with ⟨hcs, hx⟩ | ⟨a, len, cap, zs, hcs, _, hle, hmax, hall, hx, hcell, hwf⟩
  · simp [Value.cells] at hcs
    obtain ⟨rfl, rfl, rfl⟩ := hcs
    exact ⟨none, 0, 0, [], rfl, by omega, rfl, by omega, (fun j hj => by omega), (fun x hx => by cases hx), hz2⟩
  · simp [Value.cells] at hcs
    obtain ⟨rfl, rfl, rfl⟩ := hcs
    simp only [Prod.mk.injEq] at hx
    obtain ⟨rfl, rfl⟩ := hx
    simp only [if_true] at hall
    simp only [DataW.weights, ht, List.all_cons, Bool.and_eq_true, decide_eq_true_eq, lits_length, List.length_take, List.length_drop, hby] at hz1
    refine ⟨some a, n, c, zs.take n, rfl, hle, by simp; omega, ?_, ?_, ?_, hz2⟩
    · refine Nat.le_trans (Nat.mul_le_mul_right _ ?_) hz1.1
      omega
    · intro j hj
      refine ⟨a, rfl, ?_⟩
      rw [hcell j (by omega)]
      congr 2
      simp [List.getD, List.getElem?_take, hj]
    · intro x hx
      exact hwf x (List.mem_of_mem_take hx)
/-- A number, opened; its weight is none. -/
theorem open_no {base : Nat} {t : TypeId} {k : IntKind} {W : World} {v : Value} {d : DataW H} {ps : List MemPlace} {tsr : List TypeId} {dsr : List (DataW H)} (ht : P.underlying t = some (.int k))
    (hv : Value.okWide P W .any base t v) (h : DataW.Trod enc P W 0 (fun _ => true) true t v d ps) (hz : (DataW.weightsEach P (t :: tsr) (d :: dsr)).all (· ≤ reachBytes) = true) :
    ∃ n, v = .int k n ∧ (Lit.int k n).wf = true ∧ (DataW.weightsEach P tsr dsr).all (· ≤ reachBytes) = true := by
  simp only [DataW.weightsEach, List.all_append, Bool.and_eq_true] at hz
  obtain ⟨n, rfl, rfl, rfl, hw⟩ := open_int ht hv h
  exact ⟨n, rfl, hw, hz.2⟩
end
theorem rd_of {W : World} {k : IntKind} {A : Option Addr} {n by' : Nat} {xs : List Int} (h1 : xs.length = n) (h2 : n * by' ≤ reachBytes) (hb : 1 ≤ by') (h3 : ∀ j, j < n → ∃ ad, A = some ad ∧ W.cell? (ad.add j) = some (.int k (xs.getD j 0))) : RdI W k A n xs := by
  refine ⟨h1, ?_, h3⟩
  have : n ≤ n * by' := Nat.le_mul_of_pos_right _ hb
  unfold reachBytes at h2
  omega
theorem in_i32 {xs : List Int} (h : ∀ x ∈ xs, (Lit.int .i32 x).wf = true) : InI32 xs := by
  intro j
  by_cases hj : j < xs.length
  · have := Go.bounds_i32 (h _ (List.getElem_mem hj))
    simp [List.getD, hj]; omega
  · simp [List.getD, List.getElem?_eq_none (by omega : xs.length ≤ j)]
theorem in_k8 {xs : List Int} (h : ∀ x ∈ xs, (Lit.int .u8 x).wf = true) : InK8 xs := by
  intro j
  by_cases hj : j < xs.length
  · have := Go.bounds_u8 (h _ (List.getElem_mem hj))
    simp [List.getD, hj]; omega
  · simp [List.getD, List.getElem?_eq_none (by omega : xs.length ≤ j)]
def putTab (h : Array Obj) (x : Nat × Array Value) : Array Obj := h.modify x.1 fun
  | .cells _ t frozen => .cells x.2 t frozen
  | o => o
/-- A world whose tables are laid as the program lays them. -/
noncomputable def laidWorld (os : Os) (tabs : List (Nat × Array Value)) : World :=
  { World.holding Tryd.prog os ⟨#[], #[], []⟩ with heap := tabs.foldl putTab (World.holding Tryd.prog os ⟨#[], #[], []⟩).heap }
def row60V : Array Value := (rowL.map fun z => Value.int .i64 z).toArray
def rowV : Array Value := (rowL.map fun z => Value.int .i32 z).toArray
def topsL : List Int := [0, 255, 65535, 16777215, 4294967295, 1099511627775, 281474976710655, 72057594037927935, 18446744073709551615]
def topsV : Array Value := (topsL.map fun z => Value.int .u64 z).toArray
theorem rowIs_of {W : World} {name : String} {g : Nat} {k : IntKind} (hg : Tryd.prog.globalNamed name = some g) (h : Lib.TabIs Tryd.prog W name k rowL) : RowIs g k W := fun j hj => h.cell hg j (by simpa [rowL] using hj)
theorem tTops : (Tryd.prog.globals[3]?).map (·.type) = some 320 := by kernel_rfl
theorem tRow : (Tryd.prog.globals[1]?).map (·.type) = some 34 := by kernel_rfl
theorem tRow60 : (Tryd.prog.globals[0]?).map (·.type) = some 36 := by kernel_rfl
theorem tTargets : (Tryd.prog.globals[2]?).map (·.type) = some 229 := by kernel_rfl
theorem cells208 : Tryd.prog.cellsOf 208 = 1 := by kernel_rfl
theorem cells21 : Tryd.prog.cellsOf 21 = 1 := by kernel_rfl
theorem cells5 : Tryd.prog.cellsOf 5 = 1 := by kernel_rfl
theorem cells2 : Tryd.prog.cellsOf 2 = 1 := by kernel_rfl
theorem cells320 : Tryd.prog.cellsOf 320 = 9 := by kernel_rfl
theorem cells34 : Tryd.prog.cellsOf 34 = 33 := by kernel_rfl
theorem cells36 : Tryd.prog.cellsOf 36 = 33 := by kernel_rfl
theorem cells229 : Tryd.prog.cellsOf 229 = 2 := by kernel_rfl
theorem bytes21 : Tryd.prog.bytesOf 21 = 4 := by kernel_rfl
theorem bytes5 : Tryd.prog.bytesOf 5 = 1 := by kernel_rfl
theorem topsIs {W : World} {r : List (String × DataW Unit)} (h : laidMet Tryd.prog (("bitloft/octet.tops", Lib.tabData .u64 topsL) :: r) W) : W.cell? ⟨3, 2, none⟩ = some (.int .u64 65535) :=
  (Lib.tabIs_of_head gTops tTops Tryd.underlying320 Tryd.underlying208 cells208 cells320 h).cell gTops 2 (by decide)
theorem rowIs {W : World} {r : List (String × DataW Unit)} (h : laidMet Tryd.prog (("bitloft/squash.row", Lib.tabData .i32 rowL) :: r) W) : RowIs 1 .i32 W :=
  rowIs_of gRow (Lib.tabIs_of_head gRow tRow Tryd.underlying34 Tryd.underlying21 cells21 cells34 h)
theorem row60Is {W : World} {r : List (String × DataW Unit)} (h : laidMet Tryd.prog (("bitloft/bitlofttop.row60", Lib.tabData .i64 rowL) :: r) W) : RowIs 0 .i64 W :=
  rowIs_of gRow60 (Lib.tabIs_of_head gRow60 tRow60 Tryd.underlying36 Tryd.underlying2 cells2 cells36 h)
end Go.Proofs.YthkdojmamejkaaaDoor
