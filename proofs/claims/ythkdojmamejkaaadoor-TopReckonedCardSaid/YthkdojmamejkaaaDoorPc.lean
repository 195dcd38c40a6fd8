/- The rest of a function's text. -/
import Derived.Test.YthkdojmamejkaaaDoorPb
import Derived.Test.YthkdojmamejkaaaDoorProg
import Derived.WalkKit
import Derived.WalkLawsBesides
import Derived.WalkSpells
import Derived.Deep.QuietTactic
import Derived.BigQuiet
import Derived.Deep.LoopGhost
import Derived.Deep.DeepFit
import Derived.Deep.DeepMust
import Derived.Lib.Hide
import Derived.Handy
import Derived.Deep.Light
import Derived.Laws.CopyOwn
import Derived.Deep.DeepCutAuto
import Derived.Deep.CutBlock
import Derived.Outline
set_option linter.unusedVariables false
set_option linter.unusedSimpArgs false
namespace Go.Proofs.YthkdojmamejkaaaDoor
open Go.RowKit
def cRest : Code → Code
  | .seq _ b => b
  | c => c
def cTail : Nat → Code → Code
  | 0, c => c
  | n + 1, c => cTail n (cRest c)
noncomputable def cBody (f : Func) : Code := f.body.getD .skip
end Go.Proofs.YthkdojmamejkaaaDoor
