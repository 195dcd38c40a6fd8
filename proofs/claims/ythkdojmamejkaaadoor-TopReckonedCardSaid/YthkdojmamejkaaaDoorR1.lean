/- TopReckoned: the law returns true for every argument, in every world in which its three tables hold what the program lays; its arguments read behind the call as before. CONDITIONS: none but the row's own. -/
import Derived.Test.YthkdojmamejkaaaDoorR
import Derived.Test.YthkdojmamejkaaaDoorQ0
import Derived.Test.YthkdojmamejkaaaDoorCards
import Derived.Test.YthkdojmamejkaaaDoorTie
import Derived.Test.YthkdojmamejkaaaDoorProg
import Derived.WalkKit
import Derived.WalkLawsBesides
import Derived.WalkSpells
import Derived.Deep.QuietTactic
import Derived.BigQuiet
import Derived.Deep.LoopGhost
import Derived.Deep.DeepFit
import Derived.Deep.DeepMust
import Derived.Lib.Hide
import Derived.Handy
import Derived.Deep.Light
import Derived.Laws.CopyOwn
import Derived.Deep.DeepCutAuto
import Derived.Deep.CutBlock
import Derived.Outline
set_option linter.unusedVariables false
set_option linter.unusedSimpArgs false
namespace Go.Proofs.YthkdojmamejkaaaDoor
open Go.RowKit
open Go.ChangeShapes Go.WideShapes Go.ChangeAt Go.RowKit
namespace TopReckoned
theorem inT : ∀ t ∈ Tryd.f3.params.toList, Tryd.prog.readableRec t = true ∧ t < Tryd.prog.types.size := by
  have h : (Tryd.f3.params.toList.all fun t => Tryd.prog.readableRec t && decide (t < Tryd.prog.types.size)) = true := by kernel_rfl
  intro t ht
  have := List.all_eq_true.1 h t ht
  simpa using this
theorem rest3 : Tryd.f3.resultTypes = #[4] := by kernel_rfl
theorem laid_eq : Rows.topReckonedRow.laid = [("bitloft/octet.tops", Lib.tabData .u64 topsL), ("bitloft/squash.row", Lib.tabData .i32 rowL), ("bitloft/bitlofttop.row60", Lib.tabData .i64 rowL)] := rfl
set_option maxRecDepth 100000 in
theorem contract (H : Type) (enc : TypeId × Value → H) (W : World) (base : Nat) (args : Array Value) (ds gs : List (DataW H)) (before : List MemPlace)
    (hval : ∀ (j : Nat) t v, Tryd.f3.params[j]? = some t → args[j]? = some v → Value.okWide Tryd.prog W .any base t v)
    (hW : DataW.Whole enc Tryd.prog Tryd.f3.params.toList Rows.topReckonedSpec.vars false W args.toList ds gs before)
    (hz : (DataW.weightsEach Tryd.prog (Tryd.f3.params.toList ++ []) (ds ++ gs)).all (· ≤ reachBytes) = true)
    (hL : laidMetH Tryd.prog Rows.topReckonedRow.laid W) :
    Calls Tryd.prog 3 args W fun e W' => ∃ v, e = .returned v ∧ Rows.topReckonedSpec.post enc Tryd.prog Tryd.f3 false true false false W args v W' := by
  have hW' := hW
  obtain ⟨p, q, hA0, hV, rfl, hfz, hnd⟩ := hW
  have hA : DataW.TrodAll enc Tryd.prog W 0 (fun _ => true) true Tryd.f3.params.toList args.toList ds p := hA0
  obtain ⟨rfl, rfl⟩ := trodVars_none hV
  rw [List.append_nil] at hz
  rw [List.append_nil] at hz
  rw [Tryd.params3] at hA hval hz
  obtain ⟨v0, vs0, d0, ds0, p0, q0, e0, rfl, rfl, h0, r0⟩ := trodAll_cons hA
  obtain ⟨v1, vs1, d1, ds1, p1, q1, rfl, rfl, rfl, h1, r1⟩ := trodAll_cons r0
  obtain ⟨v2, vs2, d2, ds2, p2, q2, rfl, rfl, rfl, h2, r2⟩ := trodAll_cons r1
  obtain ⟨v3, vs3, d3, ds3, p3, q3, rfl, rfl, rfl, h3, r3⟩ := trodAll_cons r2
  obtain ⟨v4, vs4, d4, ds4, p4, q4, rfl, rfl, rfl, h4, r4⟩ := trodAll_cons r3
  obtain ⟨v5, vs5, d5, ds5, p5, q5, rfl, rfl, rfl, h5, r5⟩ := trodAll_cons r4
  obtain ⟨v6, vs6, d6, ds6, p6, q6, rfl, rfl, rfl, h6, r6⟩ := trodAll_cons r5
  obtain ⟨v7, vs7, d7, ds7, p7, q7, rfl, rfl, rfl, h7, r7⟩ := trodAll_cons r6
  obtain ⟨v8, vs8, d8, ds8, p8, q8, rfl, rfl, rfl, h8, r8⟩ := trodAll_cons r7
  obtain ⟨v9, vs9, d9, ds9, p9, q9, rfl, rfl, rfl, h9, r9⟩ := trodAll_cons r8
  obtain ⟨v10, vs10, d10, ds10, p10, q10, rfl, rfl, rfl, h10, r10⟩ := trodAll_cons r9
  obtain ⟨v11, vs11, d11, ds11, p11, q11, rfl, rfl, rfl, h11, r11⟩ := trodAll_cons r10
  obtain ⟨rfl, rfl, rfl⟩ := trodAll_nil r11
  obtain rfl : args = #[v0, v1, v2, v3, v4, v5, v6, v7, v8, v9, v10, v11] := by cases args; simp_all
  obtain ⟨x0, rfl, wf0, hz⟩ := open_no Tryd.underlying21 (hval 0 21 _ rfl rfl) h0 hz
  obtain ⟨x1, rfl, wf1, hz⟩ := open_no Tryd.underlying21 (hval 1 21 _ rfl rfl) h1 hz
  obtain ⟨x2, rfl, wf2, hz⟩ := open_no Tryd.underlying2 (hval 2 2 _ rfl rfl) h2 hz
  obtain ⟨x3, rfl, wf3, hz⟩ := open_no Tryd.underlying3 (hval 3 3 _ rfl rfl) h3 hz
  obtain ⟨A, nl, cl, xs, rfl, hcl, xl, xb, xc, xw, hz⟩ := open_rd Tryd.underlying22 Tryd.underlying21 cells21 bytes21 (hval 4 22 _ rfl rfl) h4 hz
  obtain ⟨B, nm, cm, ys, rfl, hcm, yl, yb, yc, yw, hz⟩ := open_rd Tryd.underlying22 Tryd.underlying21 cells21 bytes21 (hval 5 22 _ rfl rfl) h5 hz
  obtain ⟨x6, rfl, wf6, hz⟩ := open_no Tryd.underlying21 (hval 6 21 _ rfl rfl) h6 hz
  obtain ⟨x7, rfl, wf7, hz⟩ := open_no Tryd.underlying21 (hval 7 21 _ rfl rfl) h7 hz
  obtain ⟨x8, rfl, wf8, hz⟩ := open_no Tryd.underlying21 (hval 8 21 _ rfl rfl) h8 hz
  obtain ⟨x9, rfl, wf9, hz⟩ := open_no Tryd.underlying3 (hval 9 3 _ rfl rfl) h9 hz
  obtain ⟨S, ns, cs, ss, rfl, hcs, sl, sb, sc, sw, hz⟩ := open_rd Tryd.underlying23 Tryd.underlying5 cells5 bytes5 (hval 10 23 _ rfl rfl) h10 hz
  obtain ⟨x11, rfl, wf11, hz⟩ := open_no Tryd.underlying5 (hval 11 5 _ rfl rfl) h11 hz
  have hL' : laidMet Tryd.prog [("bitloft/octet.tops", Lib.tabData .u64 topsL), ("bitloft/squash.row", Lib.tabData .i32 rowL), ("bitloft/bitlofttop.row60", Lib.tabData .i64 rowL)] W := hL
  have b2 := Go.bounds_i64 wf2
  have b3 := Go.bounds_i64 wf3
  have b9 := Go.bounds_i64 wf9
  refine (c_TopReckoned x0 x1 x2 x3 A B S nl cl nm cm ns cs xs ys ss x6 x7 x8 x9 x11 W (Go.bounds_i32 wf0) (Go.bounds_i32 wf1) b2 b3 (Go.bounds_i32 wf6) (Go.bounds_i32 wf7) (Go.bounds_i32 wf8) b9 (Go.bounds_u8 wf11)
    (rd_of xl xb (by decide) xc) (rd_of yl yb (by decide) yc) (rd_of sl sb (by decide) sc) (in_i32 fun x hx => xw x (List.mem_of_mem_take hx)) (in_i32 fun x hx => yw x (List.mem_of_mem_take hx)) (in_k8 fun x hx => sw x (List.mem_of_mem_take hx))
    (row60Is hL'.tail.tail) (rowIs hL'.tail) (topsIs hL') hcl hcm hcs).mono fun e W' ⟨he, hg⟩ => ?_
  subst he
  exact ⟨_, rfl, post_true laidOut hW' rfl rest3 Tryd.underlying4 inT rfl rfl rfl hg⟩
noncomputable def wit (os : Os) : World := laidWorld os [(0, row60V), (1, rowV), (3, topsV)]
def arg0 : Array Value := #[.int .i32 0, .int .i32 0, .int .i64 0, .int .i64 0, .slice none 0 0, .slice none 0 0, .int .i32 0, .int .i32 0, .int .i32 0, .int .i64 0, .slice none 0 0, .int .u8 0]
theorem laid_met (os : Os) : laidMet Tryd.prog Rows.topReckonedRow.laid ((wit os).forCall (fun _ _ => 0) ⟨#[], arg0, []⟩).memory :=
  laidMet_of_run' 8 (by kernel_rfl) (by kernel_rfl)
theorem reads (os : Os) {H : Type} (enc : TypeId × Value → H) : ∃ ds places, DataW.whole enc Tryd.prog ((wit os).forCall (fun _ _ => 0) ⟨#[], arg0, []⟩).memory Tryd.f3.params.toList Rows.topReckonedSpec.vars false arg0.toList 8 = some (ds, [], places) :=
  ⟨[.lit (.int .i32 0), .lit (.int .i32 0), .lit (.int .i64 0), .lit (.int .i64 0), .nil, .nil, .lit (.int .i32 0), .lit (.int .i32 0), .lit (.int .i32 0), .lit (.int .i64 0), .nil, .lit (.int .u8 0)], [], by kernel_rfl⟩

set_option maxRecDepth 100000 in
theorem lifted (os : Os) (started : os.Started) (H : Type) (enc : TypeId × Value → H) (F : Stop.Interp) :
    ReturnsInHanded {} Tryd.checked os 3 .any ((OpenSpec.ofChange Rows.topReckonedSpec).preRow enc Tryd.prog Tryd.f3 Rows.topReckonedRow.domain false Rows.topReckonedRow.laid) (((OpenSpec.ofChange Rows.topReckonedSpec).at F).post enc Tryd.prog Tryd.f3 false true false false) := by
  obtain ⟨ds, places, hx⟩ := reads os enc
  refine returnsInHanded_of_row (C := Tryd.checked) (s := OpenSpec.ofChange Rows.topReckonedSpec) own started (by kernel_rfl) Tryd.func3
    (witness_row_at (enc := enc) (C := Tryd.checked) false (wit os) arg0 rfl (by kernel_rfl) (by kernel_rfl) (by kernel_rfl)
      (OpenSpec.preRow_of_cond 8 hx (by kernel_rfl) (fun k hk => by cases hk) (by kernel_rfl) (laid_met os))) ?_
  intro W base args ds gs before hval hW _ _ hz hL _ _
  exact contract H enc W base args ds gs before hval hW hz hL
theorem said : Rows.TopReckonedSaid :=
  OpenClaim.holds_of_cond 3 Tryd.f3 rfl rfl rfl rfl rfl rfl rfl ⟨rfl, rfl, rfl, rfl, rfl⟩ rfl rfl rfl rfl rfl (by kernel_rfl) Tryd.func3 (by kernel_rfl)
    (of_decide_eq_true (by kernel_rfl)) (by unfold Func.isWrapper; first | (rw [if_pos (by decide +kernel)]; kernel_rfl) | (rw [if_neg (by decide +kernel)]; exact ⟨rfl, rfl⟩))
    (fun os started H enc _ F => by rw [OpenClaim.pre_eq_preRow]; exact lifted os started H enc F)
theorem plain (f : FuncId) (fn : Func) (hf : Tryd.pinned.checked.prog.funcNamed "bitloft/bitlofttop.TopReckoned" = some f) (hfn : Tryd.pinned.checked.prog.funcs[f]? = some fn) :
    false = Tryd.pinned.checked.prog.looks [] ∧ ∀ (j : Nat) t, fn.params[j]? = some t → Tryd.pinned.checked.prog.wantsStandIn t = false := by
  obtain rfl : f = 3 := Option.some.inj ((show Tryd.prog.funcNamed "bitloft/bitlofttop.TopReckoned" = some 3 by kernel_rfl).symm.trans hf) |>.symm
  obtain rfl : fn = Tryd.f3 := (Option.some.inj (Tryd.func3.symm.trans hfn)).symm
  refine ⟨by kernel_rfl, fun j t ht => ?_⟩
  have h : (Tryd.f3.params.toList.all fun t => !Tryd.prog.wantsStandIn t) = true := by kernel_rfl
  have ht' : t ∈ Tryd.f3.params.toList := Array.mem_toList_iff.2 (Array.mem_of_getElem? ht)
  have := List.all_eq_true.1 h t ht'
  exact (by simpa using this : Tryd.prog.wantsStandIn t = false)
theorem card : Rows.TopReckonedCardSaid :=
  Claim7.holds_tied_plain_at .later [] _ _ _ _ said (fun _ h => by cases h) (by kernel_rfl) (fun _ h => by cases h) topReckoned_row_tie rfl ⟨rfl, rfl⟩ (by kernel_rfl) rfl plain (by kernel_rfl)
end TopReckoned
theorem topReckoned_card : Rows.TopReckonedCardSaid := TopReckoned.card
end Go.Proofs.YthkdojmamejkaaaDoor
