/- The regions of FrameDepths that draw their order: whether the text's order serves all, reckoned once. -/
import Derived.Test.YtibeoeooajelgaaF19
import Derived.Test.YtibeoeooajelgaaQuiet
namespace Go.Proofs.Ytibeoeooajelgaa
open Go.RowKit
/-- The operations of a region, by its number. -/
def regOps : Code → Nat → Option (List Oper)
  | .region i ops _, n => if i = n then some ops.toList else none
  | .seq a b, n => match regOps a n with | some l => some l | none => regOps b n
  | .cond _ a b, n => match regOps a n with | some l => some l | none => regOps b n
  | .rangeFunc _ _ a b, n => match regOps a n with | some l => some l | none => regOps b n
  | .block _ a, n => regOps a n
  | .loop a, n => regOps a n
  | .scope a, n => regOps a n
  | _, _ => none
def opsOf (p : Program) (k n : Nat) : List Oper := match p.funcs[k]? with
  | some f => match f.body with
    | some c => (regOps c n).getD []
    | none => []
  | none => []
theorem lex14 : Region.lexB .any (opsOf Try.prog 9 14).toArray = true := by kernel_rfl
theorem lex16 : Region.lexB .any (opsOf Try.prog 9 16).toArray = true := by kernel_rfl
theorem lex14_of {l : List Oper} (h : opsOf Try.prog 9 14 = l) : Region.lexB .any l.toArray = true := h ▸ lex14
theorem lex16_of {l : List Oper} (h : opsOf Try.prog 9 16 = l) : Region.lexB .any l.toArray = true := h ▸ lex16
end Go.Proofs.Ytibeoeooajelgaa
