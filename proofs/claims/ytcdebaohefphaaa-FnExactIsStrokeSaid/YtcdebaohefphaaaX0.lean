/- Laid by xp.py, a program of this session, over the kit's print: plain Lean functions with the answers of the Go functions, and proofs that the Go calls come to these answers; no condition beside those that each theorem names. -/
import Derived.Test.YtcdebaohefphaaaProg
import Derived.Below
import Derived.Deep.Draws
import Derived.Deep.AppendLies
import Derived.Maps.AppendAt
import Derived.OwnWalk
import Derived.Laws.BytesArg
import Derived.Laws.MakeOwn
import Derived.Laws.OwnMore
import Derived.Deep.OwnRows
import Derived.Tactics
import Derived.Lib.ConvBytes
import Derived.Laws.Slices
import Derived.WalkKit
import Derived.KernelRfl
import Derived.RowKit3
import Derived.Deep.LoopGhost
import Derived.Deep.QuietTactic
import Derived.BigQuiet
import Derived.WideLaws
import Derived.Deep.DeepCutAuto
import Derived.Deep.CutBlock
import Derived.Deep.RegionHeld3
import Derived.Laws.Rows
import Derived.Lib.AppendStr
import Derived.ArgAppend
import Derived.Laws.IdiomCopy
import Derived.OrdersHeld
import Derived.Laws.BitsLemmas
import Derived.RowKit
import Derived.Shelf.Abstract
import Derived.Lib.LazyBuf
import Derived.Lib.Bytealg
import Derived.Lib.Strings
import Derived.Lib.SliceRun
import Derived.Lib.Tables
import Derived.Test.YtcdebaohefphaaaShelf
import Derived.Test.YtcdebaohefphaaaWWords
import Derived.Test.YtcdebaohefphaaaWLast
import Derived.Test.YtcdebaohefphaaaWTab
import Derived.Test.YtcdebaohefphaaaWFour
import Derived.Test.YtcdebaohefphaaaWQPut
import Derived.Test.YtcdebaohefphaaaWApart
import Derived.Test.YtcdebaohefphaaaWArr
import Derived.Test.YtcdebaohefphaaaWZeros
import Derived.Test.YtcdebaohefphaaaWFoot
import Derived.Test.YtcdebaohefphaaaWKept
import Derived.Test.YtcdebaohefphaaaWShare
import Derived.Test.YtcdebaohefphaaaWN
import Derived.Test.YtcdebaohefphaaaWFootNe
import Derived.Test.YtcdebaohefphaaaWAt
import Derived.Test.YtcdebaohefphaaaWEqStruct
import Derived.Test.YtcdebaohefphaaaWRepsOne
import Derived.Test.YtcdebaohefphaaaWInv
import Derived.Test.YtcdebaohefphaaaWInvWords
import Derived.Test.YtcdebaohefphaaaWGuard
import Derived.Test.YtcdebaohefphaaaWNEv
import Derived.Test.YtcdebaohefphaaaWMore
namespace Go.Proofs.Ytcdebaohefphaaa.X
open Go.RowKit Go.Proofs.YtcdebaohefphaaaW.PrintWords Go.Proofs.YtcdebaohefphaaaW.PrintLast Go.Proofs.YtcdebaohefphaaaW.PrintMore
attribute [local go_sem] max2_int min2_int max_two min_two max_three min_three max_four min_four   -- for this text's walks alone
set_option linter.unusedVariables false
set_option linter.unusedSimpArgs false



def errW : Option Int → Value
  | none => .nilIface
  | some c => .iface 0 (.int .i64 c)
theorem errW_none : errW none = .nilIface := rfl
theorem errW_some (c : Int) : errW (some c) = .iface 0 (.int .i64 c) := rfl

-- the values' own types

end Go.Proofs.Ytcdebaohefphaaa.X
