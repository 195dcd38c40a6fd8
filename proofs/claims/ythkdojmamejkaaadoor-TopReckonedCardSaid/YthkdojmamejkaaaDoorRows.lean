/-
  NARROWER THAN 'FOR EVERY INPUT', by the rows' own cells (each row's printed sentence says how): TopReckoned: laid · TopWeighed: laid · TopCounted: laid · TopAdapted: laid · TopSieved: laid · TopSlotted: laid.
  DERIVED. THE GIVEN ROWS OF THIS SEAT. 6 by the template 'for every input the law returns true; each argument reads behind the call as it read before'; 0 by the template 'total and deterministic' (their statements: YthkdojmamejkaaaDoorTotals.lean).
  GIVEN WITH THE SEED: the statements are not yours to turn. If you find one false, say at which input.
  Laid BY PROGRAM, IN A SANDBOX (cutbox-rows.mjs): the forced cells as the released guide's own fill.sh prints them over the translation c79b6ff57ac3b6c4… (all of the seat's roots in one cut). By AI agents, Wed Nov 11 2026. No macro, syntax, notation, axiom, sorry.
-/
import Derived.Test.YthkdojmamejkaaaDoorChecked
import GoSem.PinnedTables
import GoSem.Claim
import GoSem.ClaimJoined
import GoSem.ClaimMapViews
import Derived.JoinedTies
import Derived.KernelRfl
namespace Go.Proofs.YthkdojmamejkaaaDoor
/- THE CELL 'sum', in the pinned program and in every row, IS THE sha256 OF THE DUMP (.gsa) THAT YthkdojmamejkaaaDoorProg.lean LOADS. Nothing in Lean hashes anything: it is a label: what it is worth is what the hold of that sum in a sandbox is worth. -/
noncomputable def Tryd.pinned : Pinned := { name := "ythkdojmamejkaaadoor", sum := "c79b6ff57ac3b6c46d24d060c7baa208186c88bb638a9b2f70e3b424bfdcc4be", checked := Tryd.checked }
namespace Rows
def none {H : Type} : Left H := { results := [], args := [] }

/- WHAT THE LISTED PACKAGE-LEVEL VARIABLES READ AS WHEN THE CALL BEGINS. Each datum BY PROGRAM (the guide's laid-datum.mjs) off the statement by which the dump's own 'gosem.cut.vars' lays the variable. In a bare row this is a premise. The card (YthkdojmamejkaaaDoorCards.lean) ties it to the program's text. -/
def laid_bitloft_octet_tops {H : Type} : DataW H := .agg [.lit (.int .u64 0), .lit (.int .u64 255), .lit (.int .u64 65535), .lit (.int .u64 16777215), .lit (.int .u64 4294967295), .lit (.int .u64 1099511627775), .lit (.int .u64 281474976710655), .lit (.int .u64 72057594037927935), .lit (.int .u64 18446744073709551615)]
def laid_bitloft_squash_row {H : Type} : DataW H := .agg [.lit (.int .i32 1), .lit (.int .i32 2), .lit (.int .i32 3), .lit (.int .i32 6), .lit (.int .i32 10), .lit (.int .i32 16), .lit (.int .i32 27), .lit (.int .i32 45), .lit (.int .i32 73), .lit (.int .i32 120), .lit (.int .i32 194), .lit (.int .i32 310), .lit (.int .i32 488), .lit (.int .i32 747), .lit (.int .i32 1101), .lit (.int .i32 1546), .lit (.int .i32 2047), .lit (.int .i32 2549), .lit (.int .i32 2994), .lit (.int .i32 3348), .lit (.int .i32 3607), .lit (.int .i32 3785), .lit (.int .i32 3901), .lit (.int .i32 3975), .lit (.int .i32 4022), .lit (.int .i32 4050), .lit (.int .i32 4068), .lit (.int .i32 4079), .lit (.int .i32 4085), .lit (.int .i32 4089), .lit (.int .i32 4092), .lit (.int .i32 4093), .lit (.int .i32 4094)]
def laid_bitloft_bitlofttop_row60 {H : Type} : DataW H := .agg [.lit (.int .i64 1), .lit (.int .i64 2), .lit (.int .i64 3), .lit (.int .i64 6), .lit (.int .i64 10), .lit (.int .i64 16), .lit (.int .i64 27), .lit (.int .i64 45), .lit (.int .i64 73), .lit (.int .i64 120), .lit (.int .i64 194), .lit (.int .i64 310), .lit (.int .i64 488), .lit (.int .i64 747), .lit (.int .i64 1101), .lit (.int .i64 1546), .lit (.int .i64 2047), .lit (.int .i64 2549), .lit (.int .i64 2994), .lit (.int .i64 3348), .lit (.int .i64 3607), .lit (.int .i64 3785), .lit (.int .i64 3901), .lit (.int .i64 3975), .lit (.int .i64 4022), .lit (.int .i64 4050), .lit (.int .i64 4068), .lit (.int .i64 4079), .lit (.int .i64 4085), .lit (.int .i64 4089), .lit (.int .i64 4092), .lit (.int .i64 4093), .lit (.int .i64 4094)]
def laid_unicode_utf8_acceptRanges {H : Type} : DataW H := .agg [.agg [.lit (.int .u8 128), .lit (.int .u8 191)], .agg [.lit (.int .u8 160), .lit (.int .u8 191)], .agg [.lit (.int .u8 128), .lit (.int .u8 159)], .agg [.lit (.int .u8 144), .lit (.int .u8 191)], .agg [.lit (.int .u8 128), .lit (.int .u8 143)], .agg [.lit (.int .u8 0), .lit (.int .u8 0)], .agg [.lit (.int .u8 0), .lit (.int .u8 0)], .agg [.lit (.int .u8 0), .lit (.int .u8 0)], .agg [.lit (.int .u8 0), .lit (.int .u8 0)], .agg [.lit (.int .u8 0), .lit (.int .u8 0)], .agg [.lit (.int .u8 0), .lit (.int .u8 0)], .agg [.lit (.int .u8 0), .lit (.int .u8 0)], .agg [.lit (.int .u8 0), .lit (.int .u8 0)], .agg [.lit (.int .u8 0), .lit (.int .u8 0)], .agg [.lit (.int .u8 0), .lit (.int .u8 0)], .agg [.lit (.int .u8 0), .lit (.int .u8 0)]]
/-- One of Go's own tables, pinned by name: the form's constant. -/
def laid_unicode_utf8_first : DataW Unit := Go.Pinned.utf8First
def laid_bitloft_adapt_targets {H : Type} : DataW H := .agg [.lit (.int .i32 0), .lit (.int .i32 65535)]

/-- 'bitlofttop.TopReckoned': WHATEVER THE INPUT: true; the input reads as it did. -/
def topReckonedSpec : ChangeSpec := { name := "topReckoned", fn := fun _ => fun
  | [d1, d2, d3, d4, d5, d6, d7, d8, d9, d10, d11, d12] => { results := [.lit (.bool true)], args := [d1, d2, d3, d4, d5, d6, d7, d8, d9, d10, d11, d12] }
  | _ => none }
def topReckonedRow : OpenClaim := { program := "ythkdojmamejkaaadoor", sum := "c79b6ff57ac3b6c46d24d060c7baa208186c88bb638a9b2f70e3b424bfdcc4be", func := "bitloft/bitlofttop.TopReckoned", spec := "topReckoned", inPlace := ["math/bits.Add64"], unfollowed := true, recurses := true, named := ["bitloft/bitlofttop.row60", "bitloft/squash.row", "bitloft/octet.tops"], apart := false, laid := [("bitloft/octet.tops", laid_bitloft_octet_tops), ("bitloft/squash.row", laid_bitloft_squash_row), ("bitloft/bitlofttop.row60", laid_bitloft_bitlofttop_row60)] }
def TopReckonedSaid : Prop := topReckonedRow.holds Tryd.pinned (OpenSpec.ofChange topReckonedSpec)

/-- ITS FALSE NEIGHBOUR: 'it returns false'. Refute it at one input. -/
def topReckonedWrong : ChangeSpec := { name := "topReckoned", fn := fun _ => fun
  | [d1, d2, d3, d4, d5, d6, d7, d8, d9, d10, d11, d12] => { results := [.lit (.bool false)], args := [d1, d2, d3, d4, d5, d6, d7, d8, d9, d10, d11, d12] }
  | _ => none }
def TopReckonedWrongFalsely : Prop := topReckonedRow.holds Tryd.pinned (OpenSpec.ofChange topReckonedWrong)

/-- 'bitlofttop.TopWeighed': WHATEVER THE INPUT: true; the input reads as it did. -/
def topWeighedSpec : ChangeSpec := { name := "topWeighed", fn := fun _ => fun
  | [d1, d2, d3] => { results := [.lit (.bool true)], args := [d1, d2, d3] }
  | _ => none }
def topWeighedRow : OpenClaim := { program := "ythkdojmamejkaaadoor", sum := "c79b6ff57ac3b6c46d24d060c7baa208186c88bb638a9b2f70e3b424bfdcc4be", func := "bitloft/bitlofttop.TopWeighed", spec := "topWeighed", inPlace := ["math/bits.Add64"], unfollowed := true, recurses := true, named := ["bitloft/squash.row", "bitloft/bitlofttop.row60"], apart := false, laid := [("bitloft/squash.row", laid_bitloft_squash_row), ("bitloft/bitlofttop.row60", laid_bitloft_bitlofttop_row60)] }
def TopWeighedSaid : Prop := topWeighedRow.holds Tryd.pinned (OpenSpec.ofChange topWeighedSpec)

/-- ITS FALSE NEIGHBOUR: 'it returns false'. Refute it at one input. -/
def topWeighedWrong : ChangeSpec := { name := "topWeighed", fn := fun _ => fun
  | [d1, d2, d3] => { results := [.lit (.bool false)], args := [d1, d2, d3] }
  | _ => none }
def TopWeighedWrongFalsely : Prop := topWeighedRow.holds Tryd.pinned (OpenSpec.ofChange topWeighedWrong)

/-- 'bitlofttop.TopCounted': WHATEVER THE INPUT: true; the input reads as it did. -/
def topCountedSpec : ChangeSpec := { name := "topCounted", fn := fun _ => fun
  | [d1, d2, d3, d4] => { results := [.lit (.bool true)], args := [d1, d2, d3, d4] }
  | _ => none }
def topCountedRow : OpenClaim := { program := "ythkdojmamejkaaadoor", sum := "c79b6ff57ac3b6c46d24d060c7baa208186c88bb638a9b2f70e3b424bfdcc4be", func := "bitloft/bitlofttop.TopCounted", spec := "topCounted", unfollowed := true, recurses := true, named := ["unicode/utf8.first", "unicode/utf8.acceptRanges"], apart := false, laid := [("unicode/utf8.acceptRanges", laid_unicode_utf8_acceptRanges), ("unicode/utf8.first", laid_unicode_utf8_first)] }
def TopCountedSaid : Prop := topCountedRow.holds Tryd.pinned (OpenSpec.ofChange topCountedSpec)

/-- ITS FALSE NEIGHBOUR: 'it returns false'. Refute it at one input. -/
def topCountedWrong : ChangeSpec := { name := "topCounted", fn := fun _ => fun
  | [d1, d2, d3, d4] => { results := [.lit (.bool false)], args := [d1, d2, d3, d4] }
  | _ => none }
def TopCountedWrongFalsely : Prop := topCountedRow.holds Tryd.pinned (OpenSpec.ofChange topCountedWrong)

/-- 'bitlofttop.TopAdapted': WHATEVER THE INPUT: true; the input reads as it did. -/
def topAdaptedSpec : ChangeSpec := { name := "topAdapted", fn := fun _ => fun
  | [d1, d2, d3, d4, d5, d6, d7] => { results := [.lit (.bool true)], args := [d1, d2, d3, d4, d5, d6, d7] }
  | _ => none }
def topAdaptedRow : OpenClaim := { program := "ythkdojmamejkaaadoor", sum := "c79b6ff57ac3b6c46d24d060c7baa208186c88bb638a9b2f70e3b424bfdcc4be", func := "bitloft/bitlofttop.TopAdapted", spec := "topAdapted", unfollowed := true, recurses := true, named := ["bitloft/adapt.targets", "unicode/utf8.first", "unicode/utf8.acceptRanges"], apart := false, laid := [("unicode/utf8.acceptRanges", laid_unicode_utf8_acceptRanges), ("bitloft/adapt.targets", laid_bitloft_adapt_targets), ("unicode/utf8.first", laid_unicode_utf8_first)] }
def TopAdaptedSaid : Prop := topAdaptedRow.holds Tryd.pinned (OpenSpec.ofChange topAdaptedSpec)

/-- ITS FALSE NEIGHBOUR: 'it returns false'. Refute it at one input. -/
def topAdaptedWrong : ChangeSpec := { name := "topAdapted", fn := fun _ => fun
  | [d1, d2, d3, d4, d5, d6, d7] => { results := [.lit (.bool false)], args := [d1, d2, d3, d4, d5, d6, d7] }
  | _ => none }
def TopAdaptedWrongFalsely : Prop := topAdaptedRow.holds Tryd.pinned (OpenSpec.ofChange topAdaptedWrong)

/-- 'bitlofttop.TopSieved': WHATEVER THE INPUT: true; the input reads as it did. -/
def topSievedSpec : ChangeSpec := { name := "topSieved", fn := fun _ => fun
  | [d1, d2, d3, d4, d5, d6, d7] => { results := [.lit (.bool true)], args := [d1, d2, d3, d4, d5, d6, d7] }
  | _ => none }
def topSievedRow : OpenClaim := { program := "ythkdojmamejkaaadoor", sum := "c79b6ff57ac3b6c46d24d060c7baa208186c88bb638a9b2f70e3b424bfdcc4be", func := "bitloft/bitlofttop.TopSieved", spec := "topSieved", inPlace := ["internal/bytealg.IndexByte", "internal/bytealg.MakeNoZero"], unfollowed := true, recurses := true, named := ["unicode/utf8.first", "unicode/utf8.acceptRanges"], apart := false, laid := [("unicode/utf8.acceptRanges", laid_unicode_utf8_acceptRanges), ("unicode/utf8.first", laid_unicode_utf8_first)] }
def TopSievedSaid : Prop := topSievedRow.holds Tryd.pinned (OpenSpec.ofChange topSievedSpec)

/-- ITS FALSE NEIGHBOUR: 'it returns false'. Refute it at one input. -/
def topSievedWrong : ChangeSpec := { name := "topSieved", fn := fun _ => fun
  | [d1, d2, d3, d4, d5, d6, d7] => { results := [.lit (.bool false)], args := [d1, d2, d3, d4, d5, d6, d7] }
  | _ => none }
def TopSievedWrongFalsely : Prop := topSievedRow.holds Tryd.pinned (OpenSpec.ofChange topSievedWrong)

/-- 'bitlofttop.TopSlotted': WHATEVER THE INPUT: true; the input reads as it did. -/
def topSlottedSpec : ChangeSpec := { name := "topSlotted", fn := fun _ => fun
  | [d1, d2, d3, d4] => { results := [.lit (.bool true)], args := [d1, d2, d3, d4] }
  | _ => none }
def topSlottedRow : OpenClaim := { program := "ythkdojmamejkaaadoor", sum := "c79b6ff57ac3b6c46d24d060c7baa208186c88bb638a9b2f70e3b424bfdcc4be", func := "bitloft/bitlofttop.TopSlotted", spec := "topSlotted", unfollowed := true, recurses := true, named := ["unicode/utf8.first", "unicode/utf8.acceptRanges"], apart := false, laid := [("unicode/utf8.acceptRanges", laid_unicode_utf8_acceptRanges), ("unicode/utf8.first", laid_unicode_utf8_first)] }
def TopSlottedSaid : Prop := topSlottedRow.holds Tryd.pinned (OpenSpec.ofChange topSlottedSpec)

/-- ITS FALSE NEIGHBOUR: 'it returns false'. Refute it at one input. -/
def topSlottedWrong : ChangeSpec := { name := "topSlotted", fn := fun _ => fun
  | [d1, d2, d3, d4] => { results := [.lit (.bool false)], args := [d1, d2, d3, d4] }
  | _ => none }
def TopSlottedWrongFalsely : Prop := topSlottedRow.holds Tryd.pinned (OpenSpec.ofChange topSlottedWrong)

/- THE SECOND FORM. 'bulk': how many values and letters a reading holds, each counted each time it is reached (what is shared counts as often as it is met; a slice's spare places count too). A statement '..UptoSaid' is the law's where the arguments, and the package variables that the reading takes, are together of bulk at most 1048576: NARROWER than '..Said'. Prove '..Said' where nothing that the law and all that it calls make is longer than what came in: it says more and counts as full. Else prove '..UptoSaid'. A law counts once. -/
mutual
def uptoBulk {H : Type} : DataW H → Nat
  | .lit (.string bytes) => bytes.length + 1
  | .lit _ => 1
  | .nil => 1
  | .ptr d => uptoBulk d + 1
  | .slice elems spare => uptoBulkAll elems + uptoBulkAll spare + 1
  | .agg parts => uptoBulkAll parts + 1
  | .iface _ d => uptoBulk d + 1
  | .map entries => uptoBulkEntries entries + 1
  | .held _ => 1
def uptoBulkAll {H : Type} : List (DataW H) → Nat
  | [] => 0
  | d :: r => uptoBulk d + uptoBulkAll r
def uptoBulkEntries {H : Type} : List (Lit × DataW H) → Nat
  | [] => 0
  | x :: r => uptoBulkEntry x + uptoBulkEntries r
def uptoBulkEntry {H : Type} : Lit × DataW H → Nat
  | (.string bytes, d) => bytes.length + uptoBulk d + 1
  | (_, d) => uptoBulk d + 1
 end
def uptoSmall : (H : Type) → List (DataW H) → Bool := fun _ ds => decide (uptoBulkAll ds ≤ 1048576)
def OpenSpec.upto (s : _root_.Go.ChangeSpec) : _root_.Go.OpenSpec := { _root_.Go.OpenSpec.ofChange s with cond := some uptoSmall }

/-- 'bitlofttop.TopReckoned', WHERE WHAT IT READS IS OF BULK AT MOST 1048576: true; the input reads as it did. -/
def topReckonedUptoRow : OpenClaim := { program := "ythkdojmamejkaaadoor", sum := "c79b6ff57ac3b6c46d24d060c7baa208186c88bb638a9b2f70e3b424bfdcc4be", func := "bitloft/bitlofttop.TopReckoned", spec := "topReckoned", inPlace := ["math/bits.Add64"], unfollowed := true, recurses := true, named := ["bitloft/bitlofttop.row60", "bitloft/squash.row", "bitloft/octet.tops"], apart := false, laid := [("bitloft/octet.tops", laid_bitloft_octet_tops), ("bitloft/squash.row", laid_bitloft_squash_row), ("bitloft/bitlofttop.row60", laid_bitloft_bitlofttop_row60)], narrowed := true }
def TopReckonedUptoSaid : Prop := topReckonedUptoRow.holds Tryd.pinned (OpenSpec.upto topReckonedSpec)

/-- 'bitlofttop.TopWeighed', WHERE WHAT IT READS IS OF BULK AT MOST 1048576: true; the input reads as it did. -/
def topWeighedUptoRow : OpenClaim := { program := "ythkdojmamejkaaadoor", sum := "c79b6ff57ac3b6c46d24d060c7baa208186c88bb638a9b2f70e3b424bfdcc4be", func := "bitloft/bitlofttop.TopWeighed", spec := "topWeighed", inPlace := ["math/bits.Add64"], unfollowed := true, recurses := true, named := ["bitloft/squash.row", "bitloft/bitlofttop.row60"], apart := false, laid := [("bitloft/squash.row", laid_bitloft_squash_row), ("bitloft/bitlofttop.row60", laid_bitloft_bitlofttop_row60)], narrowed := true }
def TopWeighedUptoSaid : Prop := topWeighedUptoRow.holds Tryd.pinned (OpenSpec.upto topWeighedSpec)

/-- 'bitlofttop.TopCounted', WHERE WHAT IT READS IS OF BULK AT MOST 1048576: true; the input reads as it did. -/
def topCountedUptoRow : OpenClaim := { program := "ythkdojmamejkaaadoor", sum := "c79b6ff57ac3b6c46d24d060c7baa208186c88bb638a9b2f70e3b424bfdcc4be", func := "bitloft/bitlofttop.TopCounted", spec := "topCounted", unfollowed := true, recurses := true, named := ["unicode/utf8.first", "unicode/utf8.acceptRanges"], apart := false, laid := [("unicode/utf8.acceptRanges", laid_unicode_utf8_acceptRanges), ("unicode/utf8.first", laid_unicode_utf8_first)], narrowed := true }
def TopCountedUptoSaid : Prop := topCountedUptoRow.holds Tryd.pinned (OpenSpec.upto topCountedSpec)

/-- 'bitlofttop.TopAdapted', WHERE WHAT IT READS IS OF BULK AT MOST 1048576: true; the input reads as it did. -/
def topAdaptedUptoRow : OpenClaim := { program := "ythkdojmamejkaaadoor", sum := "c79b6ff57ac3b6c46d24d060c7baa208186c88bb638a9b2f70e3b424bfdcc4be", func := "bitloft/bitlofttop.TopAdapted", spec := "topAdapted", unfollowed := true, recurses := true, named := ["bitloft/adapt.targets", "unicode/utf8.first", "unicode/utf8.acceptRanges"], apart := false, laid := [("unicode/utf8.acceptRanges", laid_unicode_utf8_acceptRanges), ("bitloft/adapt.targets", laid_bitloft_adapt_targets), ("unicode/utf8.first", laid_unicode_utf8_first)], narrowed := true }
def TopAdaptedUptoSaid : Prop := topAdaptedUptoRow.holds Tryd.pinned (OpenSpec.upto topAdaptedSpec)

/-- 'bitlofttop.TopSieved', WHERE WHAT IT READS IS OF BULK AT MOST 1048576: true; the input reads as it did. -/
def topSievedUptoRow : OpenClaim := { program := "ythkdojmamejkaaadoor", sum := "c79b6ff57ac3b6c46d24d060c7baa208186c88bb638a9b2f70e3b424bfdcc4be", func := "bitloft/bitlofttop.TopSieved", spec := "topSieved", inPlace := ["internal/bytealg.IndexByte", "internal/bytealg.MakeNoZero"], unfollowed := true, recurses := true, named := ["unicode/utf8.first", "unicode/utf8.acceptRanges"], apart := false, laid := [("unicode/utf8.acceptRanges", laid_unicode_utf8_acceptRanges), ("unicode/utf8.first", laid_unicode_utf8_first)], narrowed := true }
def TopSievedUptoSaid : Prop := topSievedUptoRow.holds Tryd.pinned (OpenSpec.upto topSievedSpec)

/-- 'bitlofttop.TopSlotted', WHERE WHAT IT READS IS OF BULK AT MOST 1048576: true; the input reads as it did. -/
def topSlottedUptoRow : OpenClaim := { program := "ythkdojmamejkaaadoor", sum := "c79b6ff57ac3b6c46d24d060c7baa208186c88bb638a9b2f70e3b424bfdcc4be", func := "bitloft/bitlofttop.TopSlotted", spec := "topSlotted", unfollowed := true, recurses := true, named := ["unicode/utf8.first", "unicode/utf8.acceptRanges"], apart := false, laid := [("unicode/utf8.acceptRanges", laid_unicode_utf8_acceptRanges), ("unicode/utf8.first", laid_unicode_utf8_first)], narrowed := true }
def TopSlottedUptoSaid : Prop := topSlottedUptoRow.holds Tryd.pinned (OpenSpec.upto topSlottedSpec)

end Rows
end Go.Proofs.YthkdojmamejkaaaDoor
