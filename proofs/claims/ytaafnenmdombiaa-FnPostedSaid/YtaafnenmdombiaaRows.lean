/-
  No cell of these rows narrows 'for every input' (looked for: loops, veiled, ifaces, maps, wideKeys, modest, calm, conditions, laid).
  DERIVED. THE GIVEN ROWS OF THIS SEAT. 2 by the template 'for every input the law returns true; each argument reads behind the call as it read before'; 0 by the template 'total and deterministic' (their statements: YtaafnenmdombiaaTotals.lean).
  GIVEN WITH THE SEED: the statements are not yours to turn. If you find one false, say at which input.
  Laid BY PROGRAM, IN A SANDBOX (cutbox-rows.mjs): the forced cells as the released guide's own fill.sh prints them over the translation 4a8ded067bfea890… (all of the seat's roots in one cut). By AI agents, Wed Nov 11 2026. No macro, syntax, notation, axiom, sorry.
-/
import Derived.Test.YtaafnenmdombiaaChecked
import GoSem.Claim
import GoSem.ClaimJoined
import GoSem.ClaimMapViews
import Derived.JoinedTies
import Derived.KernelRfl
namespace Go.Proofs.Ytaafnenmdombiaa
/- THE CELL 'sum', in the pinned program and in every row, IS THE sha256 OF THE DUMP (.gsa) THAT YtaafnenmdombiaaProg.lean LOADS. Nothing in Lean hashes anything: it is a label: what it is worth is what the hold of that sum in a sandbox is worth. -/
noncomputable def Try.pinned : Pinned := { name := "ytaafnenmdombiaa", sum := "4a8ded067bfea8900c533e9154ced7b9902955f2ed458c426ddad71b1ae87ddd", checked := Try.checked }
namespace Rows
def none {H : Type} : Left H := { results := [], args := [] }

/-- 'laws.FnPoked': WHATEVER THE INPUT: true; the input reads as it did. -/
def fnPokedSpec : ChangeSpec := { name := "fnPoked", fn := fun _ => fun
  | [d] => { results := [.lit (.bool true)], args := [d] }
  | _ => none }
def fnPokedRow : OpenClaim := { program := "ytaafnenmdombiaa", sum := "4a8ded067bfea8900c533e9154ced7b9902955f2ed458c426ddad71b1ae87ddd", func := "loop.example/g00975/laws.FnPoked", spec := "fnPoked", apart := false }
def FnPokedSaid : Prop := fnPokedRow.holds Try.pinned (OpenSpec.ofChange fnPokedSpec)

/-- ITS FALSE NEIGHBOUR: 'it returns false'. Refute it at one input. -/
def fnPokedWrong : ChangeSpec := { name := "fnPoked", fn := fun _ => fun
  | [d] => { results := [.lit (.bool false)], args := [d] }
  | _ => none }
def FnPokedWrongFalsely : Prop := fnPokedRow.holds Try.pinned (OpenSpec.ofChange fnPokedWrong)

/-- 'laws.FnPosted': WHATEVER THE INPUT: true; the input reads as it did. -/
def fnPostedSpec : ChangeSpec := { name := "fnPosted", fn := fun _ => fun
  | [d] => { results := [.lit (.bool true)], args := [d] }
  | _ => none }
def fnPostedRow : OpenClaim := { program := "ytaafnenmdombiaa", sum := "4a8ded067bfea8900c533e9154ced7b9902955f2ed458c426ddad71b1ae87ddd", func := "loop.example/g00975/laws.FnPosted", spec := "fnPosted", apart := false }
def FnPostedSaid : Prop := fnPostedRow.holds Try.pinned (OpenSpec.ofChange fnPostedSpec)

/-- ITS FALSE NEIGHBOUR: 'it returns false'. Refute it at one input. -/
def fnPostedWrong : ChangeSpec := { name := "fnPosted", fn := fun _ => fun
  | [d] => { results := [.lit (.bool false)], args := [d] }
  | _ => none }
def FnPostedWrongFalsely : Prop := fnPostedRow.holds Try.pinned (OpenSpec.ofChange fnPostedWrong)

/- THE SECOND FORM. 'bulk': how many values and letters a reading holds, each counted each time it is reached (what is shared counts as often as it is met; a slice's spare places count too). A statement '..UptoSaid' is the law's where the arguments, and the package variables that the reading takes, are together of bulk at most 1048576: NARROWER than '..Said'. Prove '..Said' where nothing that the law and all that it calls make is longer than what came in: it says more and counts as full. Else prove '..UptoSaid'. A law counts once. -/
mutual
def uptoBulk {H : Type} : DataW H → Nat
  | .lit (.string bytes) => bytes.length + 1
  | .lit _ => 1
  | .nil => 1
  | .ptr d => uptoBulk d + 1
  | .slice elems spare => uptoBulkAll elems + uptoBulkAll spare + 1
  | .agg parts => uptoBulkAll parts + 1
  | .iface _ d => uptoBulk d + 1
  | .map entries => uptoBulkEntries entries + 1
  | .held _ => 1
def uptoBulkAll {H : Type} : List (DataW H) → Nat
  | [] => 0
  | d :: r => uptoBulk d + uptoBulkAll r
def uptoBulkEntries {H : Type} : List (Lit × DataW H) → Nat
  | [] => 0
  | x :: r => uptoBulkEntry x + uptoBulkEntries r
def uptoBulkEntry {H : Type} : Lit × DataW H → Nat
  | (.string bytes, d) => bytes.length + uptoBulk d + 1
  | (_, d) => uptoBulk d + 1
 end
def uptoSmall : (H : Type) → List (DataW H) → Bool := fun _ ds => decide (uptoBulkAll ds ≤ 1048576)
def OpenSpec.upto (s : _root_.Go.ChangeSpec) : _root_.Go.OpenSpec := { _root_.Go.OpenSpec.ofChange s with cond := some uptoSmall }

/-- 'laws.FnPoked', WHERE WHAT IT READS IS OF BULK AT MOST 1048576: true; the input reads as it did. -/
def fnPokedUptoRow : OpenClaim := { program := "ytaafnenmdombiaa", sum := "4a8ded067bfea8900c533e9154ced7b9902955f2ed458c426ddad71b1ae87ddd", func := "loop.example/g00975/laws.FnPoked", spec := "fnPoked", apart := false, narrowed := true }
def FnPokedUptoSaid : Prop := fnPokedUptoRow.holds Try.pinned (OpenSpec.upto fnPokedSpec)

/-- 'laws.FnPosted', WHERE WHAT IT READS IS OF BULK AT MOST 1048576: true; the input reads as it did. -/
def fnPostedUptoRow : OpenClaim := { program := "ytaafnenmdombiaa", sum := "4a8ded067bfea8900c533e9154ced7b9902955f2ed458c426ddad71b1ae87ddd", func := "loop.example/g00975/laws.FnPosted", spec := "fnPosted", apart := false, narrowed := true }
def FnPostedUptoSaid : Prop := fnPostedUptoRow.holds Try.pinned (OpenSpec.upto fnPostedSpec)

end Rows
end Go.Proofs.Ytaafnenmdombiaa
