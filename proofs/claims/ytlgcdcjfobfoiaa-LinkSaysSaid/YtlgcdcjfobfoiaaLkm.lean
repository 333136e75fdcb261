/-
  The pieces of the code of the law LinkSays. Conditions: none.
-/
import Derived.Test.YtlgcdcjfobfoiaaLkh
import Derived.Test.YtlgcdcjfobfoiaaLkk
import Derived.Deep.CutRange
import Derived.Deep.RegionHeld3
import Derived.BigQuiet
namespace Go.Proofs.Ytlgcdcjfobfoiaa
open Go.RowKit
set_option maxRecDepth 100000

def blk2 : Code → Option Code
  | .block i c => if i = 2 then some c else blk2 c
  | .seq a b => match blk2 a with
    | some c => some c
    | none => blk2 b
  | .loop c => blk2 c
  | .scope c => blk2 c
  | .cond _ a b => match blk2 a with
    | some c => some c
    | none => blk2 b
  | _ => none
def thenOf : Code → Code
  | .seq _ (.cond _ a _) => a
  | _ => .skip
def elseOf : Code → Code
  | .seq _ (.cond _ _ b) => b
  | _ => .skip
def tailOf : Code → Option Code
  | .seq (.seq _ (.block i c)) b => if i = 2 then some b else match tailOf c with
    | some d => some d
    | none => tailOf b
  | .seq a b => match tailOf a with
    | some c => some c
    | none => tailOf b
  | .block _ c => tailOf c
  | .loop c => tailOf c
  | .scope c => tailOf c
  | .cond _ a b => match tailOf a with
    | some c => some c
    | none => tailOf b
  | _ => none
noncomputable def lsSw : Code := (Try.f10.body.bind blk2).getD .skip
noncomputable def lsSend : Code := thenOf lsSw
noncomputable def lsOut : Code := thenOf (elseOf lsSw)
noncomputable def lsRaw : Code := thenOf (elseOf (elseOf lsSw))
noncomputable def lsDef : Code := elseOf (elseOf (elseOf lsSw))
noncomputable def lsTail : Code := (Try.f10.body.bind tailOf).getD .skip
end Go.Proofs.Ytlgcdcjfobfoiaa
