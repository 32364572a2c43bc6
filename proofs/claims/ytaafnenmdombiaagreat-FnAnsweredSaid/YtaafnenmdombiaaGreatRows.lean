/-
  No cell of these rows narrows 'for every input' (looked for: loops, veiled, ifaces, maps, wideKeys, modest, calm, conditions, laid).
  DERIVED. THE GIVEN ROWS OF THIS SEAT. 4 by the template 'for every input the law returns true; each argument reads behind the call as it read before'; 0 by the template 'total and deterministic' (their statements: YtaafnenmdombiaaGreatTotals.lean).
  GIVEN WITH THE SEED: the statements are not yours to turn. If you find one false, say at which input.
  Laid BY PROGRAM, IN A SANDBOX (cutbox-rows.mjs): the forced cells as the released guide's own fill.sh prints them over the translation 77bfc2178a958c41… (all of the seat's roots in one cut). By AI agents, Wed Nov 11 2026. No macro, syntax, notation, axiom, sorry.
-/
import Derived.Test.YtaafnenmdombiaaGreatChecked
import GoSem.Claim
import GoSem.ClaimJoined
import GoSem.ClaimMapViews
import Derived.JoinedTies
import Derived.KernelRfl
namespace Go.Proofs.YtaafnenmdombiaaGreat
/- THE CELL 'sum', in the pinned program and in every row, IS THE sha256 OF THE DUMP (.gsa) THAT YtaafnenmdombiaaGreatProg.lean LOADS. Nothing in Lean hashes anything: it is a label: what it is worth is what the hold of that sum in a sandbox is worth. -/
noncomputable def Tryz.pinned : Pinned := { name := "ytaafnenmdombiaagreat", sum := "77bfc2178a958c417db318e8833d5a24e2ca8d9170fb2cc03035329c7f6d35ae", checked := Tryz.checked }
namespace Rows
def none {H : Type} : Left H := { results := [], args := [] }

/-- 'laws.FnAnswered': WHATEVER THE INPUT: true; the input reads as it did. -/
def fnAnsweredSpec : ChangeSpec := { name := "fnAnswered", fn := fun _ => fun
  | [d] => { results := [.lit (.bool true)], args := [d] }
  | _ => none }
def fnAnsweredRow : OpenClaim := { program := "ytaafnenmdombiaagreat", sum := "77bfc2178a958c417db318e8833d5a24e2ca8d9170fb2cc03035329c7f6d35ae", func := "loop.example/g00975/laws.FnAnswered", spec := "fnAnswered", unfollowed := true, recurses := true, apart := false }
def FnAnsweredSaid : Prop := fnAnsweredRow.holds Tryz.pinned (OpenSpec.ofChange fnAnsweredSpec)

/-- ITS FALSE NEIGHBOUR: 'it returns false'. Refute it at one input. -/
def fnAnsweredWrong : ChangeSpec := { name := "fnAnswered", fn := fun _ => fun
  | [d] => { results := [.lit (.bool false)], args := [d] }
  | _ => none }
def FnAnsweredWrongFalsely : Prop := fnAnsweredRow.holds Tryz.pinned (OpenSpec.ofChange fnAnsweredWrong)

/-- 'laws.FnRuling': WHATEVER THE INPUT: true; the input reads as it did. -/
def fnRulingSpec : ChangeSpec := { name := "fnRuling", fn := fun _ => fun
  | [d] => { results := [.lit (.bool true)], args := [d] }
  | _ => none }
def fnRulingRow : OpenClaim := { program := "ytaafnenmdombiaagreat", sum := "77bfc2178a958c417db318e8833d5a24e2ca8d9170fb2cc03035329c7f6d35ae", func := "loop.example/g00975/laws.FnRuling", spec := "fnRuling", unfollowed := true, recurses := true, apart := false }
def FnRulingSaid : Prop := fnRulingRow.holds Tryz.pinned (OpenSpec.ofChange fnRulingSpec)

/-- ITS FALSE NEIGHBOUR: 'it returns false'. Refute it at one input. -/
def fnRulingWrong : ChangeSpec := { name := "fnRuling", fn := fun _ => fun
  | [d] => { results := [.lit (.bool false)], args := [d] }
  | _ => none }
def FnRulingWrongFalsely : Prop := fnRulingRow.holds Tryz.pinned (OpenSpec.ofChange fnRulingWrong)

/-- 'laws.FnBare': WHATEVER THE INPUT: true; the input reads as it did. -/
def fnBareSpec : ChangeSpec := { name := "fnBare", fn := fun _ => fun
  | [d] => { results := [.lit (.bool true)], args := [d] }
  | _ => none }
def fnBareRow : OpenClaim := { program := "ytaafnenmdombiaagreat", sum := "77bfc2178a958c417db318e8833d5a24e2ca8d9170fb2cc03035329c7f6d35ae", func := "loop.example/g00975/laws.FnBare", spec := "fnBare", unfollowed := true, recurses := true, apart := false }
def FnBareSaid : Prop := fnBareRow.holds Tryz.pinned (OpenSpec.ofChange fnBareSpec)

/-- ITS FALSE NEIGHBOUR: 'it returns false'. Refute it at one input. -/
def fnBareWrong : ChangeSpec := { name := "fnBare", fn := fun _ => fun
  | [d] => { results := [.lit (.bool false)], args := [d] }
  | _ => none }
def FnBareWrongFalsely : Prop := fnBareRow.holds Tryz.pinned (OpenSpec.ofChange fnBareWrong)

/-- 'laws.FnBareSteps': WHATEVER THE INPUT: true; the input reads as it did. -/
def fnBareStepsSpec : ChangeSpec := { name := "fnBareSteps", fn := fun _ => fun
  | [d] => { results := [.lit (.bool true)], args := [d] }
  | _ => none }
def fnBareStepsRow : OpenClaim := { program := "ytaafnenmdombiaagreat", sum := "77bfc2178a958c417db318e8833d5a24e2ca8d9170fb2cc03035329c7f6d35ae", func := "loop.example/g00975/laws.FnBareSteps", spec := "fnBareSteps", apart := false }
def FnBareStepsSaid : Prop := fnBareStepsRow.holds Tryz.pinned (OpenSpec.ofChange fnBareStepsSpec)

/-- ITS FALSE NEIGHBOUR: 'it returns false'. Refute it at one input. -/
def fnBareStepsWrong : ChangeSpec := { name := "fnBareSteps", fn := fun _ => fun
  | [d] => { results := [.lit (.bool false)], args := [d] }
  | _ => none }
def FnBareStepsWrongFalsely : Prop := fnBareStepsRow.holds Tryz.pinned (OpenSpec.ofChange fnBareStepsWrong)

/- THE SECOND FORM. 'bulk': how many values and letters a reading holds, each counted each time it is reached (what is shared counts as often as it is met; a slice's spare places count too). A statement '..UptoSaid' is the law's where the arguments, and the package variables that the reading takes, are together of bulk at most 1048576: NARROWER than '..Said'. Prove '..Said' where nothing that the law and all that it calls make is longer than what came in: it says more and counts as full. Else prove '..UptoSaid'. A law counts once. -/
mutual
def uptoBulk {H : Type} : DataW H → Nat
  | .lit (.string bytes) => bytes.length + 1
  | .lit _ => 1
  | .nil => 1
  | .ptr d => uptoBulk d + 1
  | .slice elems spare => uptoBulkAll elems + uptoBulkAll spare + 1
  | .agg parts => uptoBulkAll parts + 1
  | .iface _ d => uptoBulk d + 1
  | .map entries => uptoBulkEntries entries + 1
  | .held _ => 1
def uptoBulkAll {H : Type} : List (DataW H) → Nat
  | [] => 0
  | d :: r => uptoBulk d + uptoBulkAll r
def uptoBulkEntries {H : Type} : List (Lit × DataW H) → Nat
  | [] => 0
  | x :: r => uptoBulkEntry x + uptoBulkEntries r
def uptoBulkEntry {H : Type} : Lit × DataW H → Nat
  | (.string bytes, d) => bytes.length + uptoBulk d + 1
  | (_, d) => uptoBulk d + 1
 end
def uptoSmall : (H : Type) → List (DataW H) → Bool := fun _ ds => decide (uptoBulkAll ds ≤ 1048576)
def OpenSpec.upto (s : _root_.Go.ChangeSpec) : _root_.Go.OpenSpec := { _root_.Go.OpenSpec.ofChange s with cond := some uptoSmall }

/-- 'laws.FnAnswered', WHERE WHAT IT READS IS OF BULK AT MOST 1048576: true; the input reads as it did. -/
def fnAnsweredUptoRow : OpenClaim := { program := "ytaafnenmdombiaagreat", sum := "77bfc2178a958c417db318e8833d5a24e2ca8d9170fb2cc03035329c7f6d35ae", func := "loop.example/g00975/laws.FnAnswered", spec := "fnAnswered", unfollowed := true, recurses := true, apart := false, narrowed := true }
def FnAnsweredUptoSaid : Prop := fnAnsweredUptoRow.holds Tryz.pinned (OpenSpec.upto fnAnsweredSpec)

/-- 'laws.FnRuling', WHERE WHAT IT READS IS OF BULK AT MOST 1048576: true; the input reads as it did. -/
def fnRulingUptoRow : OpenClaim := { program := "ytaafnenmdombiaagreat", sum := "77bfc2178a958c417db318e8833d5a24e2ca8d9170fb2cc03035329c7f6d35ae", func := "loop.example/g00975/laws.FnRuling", spec := "fnRuling", unfollowed := true, recurses := true, apart := false, narrowed := true }
def FnRulingUptoSaid : Prop := fnRulingUptoRow.holds Tryz.pinned (OpenSpec.upto fnRulingSpec)

/-- 'laws.FnBare', WHERE WHAT IT READS IS OF BULK AT MOST 1048576: true; the input reads as it did. -/
def fnBareUptoRow : OpenClaim := { program := "ytaafnenmdombiaagreat", sum := "77bfc2178a958c417db318e8833d5a24e2ca8d9170fb2cc03035329c7f6d35ae", func := "loop.example/g00975/laws.FnBare", spec := "fnBare", unfollowed := true, recurses := true, apart := false, narrowed := true }
def FnBareUptoSaid : Prop := fnBareUptoRow.holds Tryz.pinned (OpenSpec.upto fnBareSpec)

/-- 'laws.FnBareSteps', WHERE WHAT IT READS IS OF BULK AT MOST 1048576: true; the input reads as it did. -/
def fnBareStepsUptoRow : OpenClaim := { program := "ytaafnenmdombiaagreat", sum := "77bfc2178a958c417db318e8833d5a24e2ca8d9170fb2cc03035329c7f6d35ae", func := "loop.example/g00975/laws.FnBareSteps", spec := "fnBareSteps", apart := false, narrowed := true }
def FnBareStepsUptoSaid : Prop := fnBareStepsUptoRow.holds Tryz.pinned (OpenSpec.upto fnBareStepsSpec)

end Rows
end Go.Proofs.YtaafnenmdombiaaGreat
