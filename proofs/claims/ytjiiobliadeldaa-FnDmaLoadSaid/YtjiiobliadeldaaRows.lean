/-
  No cell of these rows narrows 'for every input' (looked for: loops, veiled, ifaces, maps, wideKeys, modest, calm, conditions, laid).
  DERIVED. THE GIVEN ROWS OF THIS SEAT. 7 by the template 'for every input the law returns true; each argument reads behind the call as it read before'; 0 by the template 'total and deterministic' (their statements: YtjiiobliadeldaaTotals.lean).
  GIVEN WITH THE SEED: the statements are not yours to turn. If you find one false, say at which input.
  Laid BY PROGRAM, IN A SANDBOX (cutbox-rows.mjs): the forced cells as the released guide's own fill.sh prints them over the translation b7914e7132abc8ab… (all of the seat's roots in one cut). By AI agents, Wed Nov 11 2026. No macro, syntax, notation, axiom, sorry.
-/
import Derived.Test.YtjiiobliadeldaaChecked
import GoSem.Claim
import GoSem.ClaimJoined
import GoSem.ClaimMapViews
import Derived.JoinedTies
import Derived.KernelRfl
namespace Go.Proofs.Ytjiiobliadeldaa
/- THE CELL 'sum', in the pinned program and in every row, IS THE sha256 OF THE DUMP (.gsa) THAT YtjiiobliadeldaaProg.lean LOADS. Nothing in Lean hashes anything: it is a label: what it is worth is what the hold of that sum in a sandbox is worth. -/
noncomputable def Try.pinned : Pinned := { name := "ytjiiobliadeldaa", sum := "b7914e7132abc8abf7d1e0a27415907af143cc984dbaf39af9070e7f74d2a2b7", checked := Try.checked }
namespace Rows
def none {H : Type} : Left H := { results := [], args := [] }

/-- 'laws.FnFlushTwice': WHATEVER THE INPUT: true; the input reads as it did. -/
def fnFlushTwiceSpec : ChangeSpec := { name := "fnFlushTwice", fn := fun _ => fun
  | [d] => { results := [.lit (.bool true)], args := [d] }
  | _ => none }
def fnFlushTwiceRow : OpenClaim := { program := "ytjiiobliadeldaa", sum := "b7914e7132abc8abf7d1e0a27415907af143cc984dbaf39af9070e7f74d2a2b7", func := "loop.example/g00975/laws.FnFlushTwice", spec := "fnFlushTwice", unfollowed := true, recurses := true, apart := false }
def FnFlushTwiceSaid : Prop := fnFlushTwiceRow.holds Try.pinned (OpenSpec.ofChange fnFlushTwiceSpec)

/-- ITS FALSE NEIGHBOUR: 'it returns false'. Refute it at one input. -/
def fnFlushTwiceWrong : ChangeSpec := { name := "fnFlushTwice", fn := fun _ => fun
  | [d] => { results := [.lit (.bool false)], args := [d] }
  | _ => none }
def FnFlushTwiceWrongFalsely : Prop := fnFlushTwiceRow.holds Try.pinned (OpenSpec.ofChange fnFlushTwiceWrong)

/-- 'laws.FnTrapped': WHATEVER THE INPUT: true; the input reads as it did. -/
def fnTrappedSpec : ChangeSpec := { name := "fnTrapped", fn := fun _ => fun
  | [d] => { results := [.lit (.bool true)], args := [d] }
  | _ => none }
def fnTrappedRow : OpenClaim := { program := "ytjiiobliadeldaa", sum := "b7914e7132abc8abf7d1e0a27415907af143cc984dbaf39af9070e7f74d2a2b7", func := "loop.example/g00975/laws.FnTrapped", spec := "fnTrapped", apart := false }
def FnTrappedSaid : Prop := fnTrappedRow.holds Try.pinned (OpenSpec.ofChange fnTrappedSpec)

/-- ITS FALSE NEIGHBOUR: 'it returns false'. Refute it at one input. -/
def fnTrappedWrong : ChangeSpec := { name := "fnTrapped", fn := fun _ => fun
  | [d] => { results := [.lit (.bool false)], args := [d] }
  | _ => none }
def FnTrappedWrongFalsely : Prop := fnTrappedRow.holds Try.pinned (OpenSpec.ofChange fnTrappedWrong)

/-- 'laws.FnDmaLoad': WHATEVER THE INPUT: true; the input reads as it did. -/
def fnDmaLoadSpec : ChangeSpec := { name := "fnDmaLoad", fn := fun _ => fun
  | [d] => { results := [.lit (.bool true)], args := [d] }
  | _ => none }
def fnDmaLoadRow : OpenClaim := { program := "ytjiiobliadeldaa", sum := "b7914e7132abc8abf7d1e0a27415907af143cc984dbaf39af9070e7f74d2a2b7", func := "loop.example/g00975/laws.FnDmaLoad", spec := "fnDmaLoad", apart := false }
def FnDmaLoadSaid : Prop := fnDmaLoadRow.holds Try.pinned (OpenSpec.ofChange fnDmaLoadSpec)

/-- ITS FALSE NEIGHBOUR: 'it returns false'. Refute it at one input. -/
def fnDmaLoadWrong : ChangeSpec := { name := "fnDmaLoad", fn := fun _ => fun
  | [d] => { results := [.lit (.bool false)], args := [d] }
  | _ => none }
def FnDmaLoadWrongFalsely : Prop := fnDmaLoadRow.holds Try.pinned (OpenSpec.ofChange fnDmaLoadWrong)

/-- 'laws.FnProgram': WHATEVER THE INPUT: true; the input reads as it did. -/
def fnProgramSpec : ChangeSpec := { name := "fnProgram", fn := fun _ => fun
  | [d] => { results := [.lit (.bool true)], args := [d] }
  | _ => none }
def fnProgramRow : OpenClaim := { program := "ytjiiobliadeldaa", sum := "b7914e7132abc8abf7d1e0a27415907af143cc984dbaf39af9070e7f74d2a2b7", func := "loop.example/g00975/laws.FnProgram", spec := "fnProgram", apart := false }
def FnProgramSaid : Prop := fnProgramRow.holds Try.pinned (OpenSpec.ofChange fnProgramSpec)

/-- ITS FALSE NEIGHBOUR: 'it returns false'. Refute it at one input. -/
def fnProgramWrong : ChangeSpec := { name := "fnProgram", fn := fun _ => fun
  | [d] => { results := [.lit (.bool false)], args := [d] }
  | _ => none }
def FnProgramWrongFalsely : Prop := fnProgramRow.holds Try.pinned (OpenSpec.ofChange fnProgramWrong)

/-- 'laws.FnUnflushed': WHATEVER THE INPUT: true; the input reads as it did. -/
def fnUnflushedSpec : ChangeSpec := { name := "fnUnflushed", fn := fun _ => fun
  | [d] => { results := [.lit (.bool true)], args := [d] }
  | _ => none }
def fnUnflushedRow : OpenClaim := { program := "ytjiiobliadeldaa", sum := "b7914e7132abc8abf7d1e0a27415907af143cc984dbaf39af9070e7f74d2a2b7", func := "loop.example/g00975/laws.FnUnflushed", spec := "fnUnflushed", unfollowed := true, recurses := true, apart := false }
def FnUnflushedSaid : Prop := fnUnflushedRow.holds Try.pinned (OpenSpec.ofChange fnUnflushedSpec)

/-- ITS FALSE NEIGHBOUR: 'it returns false'. Refute it at one input. -/
def fnUnflushedWrong : ChangeSpec := { name := "fnUnflushed", fn := fun _ => fun
  | [d] => { results := [.lit (.bool false)], args := [d] }
  | _ => none }
def FnUnflushedWrongFalsely : Prop := fnUnflushedRow.holds Try.pinned (OpenSpec.ofChange fnUnflushedWrong)

/-- 'laws.FnMasked': WHATEVER THE INPUT: true; the input reads as it did. -/
def fnMaskedSpec : ChangeSpec := { name := "fnMasked", fn := fun _ => fun
  | [d] => { results := [.lit (.bool true)], args := [d] }
  | _ => none }
def fnMaskedRow : OpenClaim := { program := "ytjiiobliadeldaa", sum := "b7914e7132abc8abf7d1e0a27415907af143cc984dbaf39af9070e7f74d2a2b7", func := "loop.example/g00975/laws.FnMasked", spec := "fnMasked", unfollowed := true, recurses := true, apart := false }
def FnMaskedSaid : Prop := fnMaskedRow.holds Try.pinned (OpenSpec.ofChange fnMaskedSpec)

/-- ITS FALSE NEIGHBOUR: 'it returns false'. Refute it at one input. -/
def fnMaskedWrong : ChangeSpec := { name := "fnMasked", fn := fun _ => fun
  | [d] => { results := [.lit (.bool false)], args := [d] }
  | _ => none }
def FnMaskedWrongFalsely : Prop := fnMaskedRow.holds Try.pinned (OpenSpec.ofChange fnMaskedWrong)

/-- 'laws.FnStands': WHATEVER THE INPUT: true; the input reads as it did. -/
def fnStandsSpec : ChangeSpec := { name := "fnStands", fn := fun _ => fun
  | [d] => { results := [.lit (.bool true)], args := [d] }
  | _ => none }
def fnStandsRow : OpenClaim := { program := "ytjiiobliadeldaa", sum := "b7914e7132abc8abf7d1e0a27415907af143cc984dbaf39af9070e7f74d2a2b7", func := "loop.example/g00975/laws.FnStands", spec := "fnStands", apart := false }
def FnStandsSaid : Prop := fnStandsRow.holds Try.pinned (OpenSpec.ofChange fnStandsSpec)

/-- ITS FALSE NEIGHBOUR: 'it returns false'. Refute it at one input. -/
def fnStandsWrong : ChangeSpec := { name := "fnStands", fn := fun _ => fun
  | [d] => { results := [.lit (.bool false)], args := [d] }
  | _ => none }
def FnStandsWrongFalsely : Prop := fnStandsRow.holds Try.pinned (OpenSpec.ofChange fnStandsWrong)

/- THE SECOND FORM. 'bulk': how many values and letters a reading holds, each counted each time it is reached (what is shared counts as often as it is met; a slice's spare places count too). A statement '..UptoSaid' is the law's where the arguments, and the package variables that the reading takes, are together of bulk at most 1048576: NARROWER than '..Said'. Prove '..Said' where nothing that the law and all that it calls make is longer than what came in: it says more and counts as full. Else prove '..UptoSaid'. A law counts once. -/
mutual
def uptoBulk {H : Type} : DataW H → Nat
  | .lit (.string bytes) => bytes.length + 1
  | .lit _ => 1
  | .nil => 1
  | .ptr d => uptoBulk d + 1
  | .slice elems spare => uptoBulkAll elems + uptoBulkAll spare + 1
  | .agg parts => uptoBulkAll parts + 1
  | .iface _ d => uptoBulk d + 1
  | .map entries => uptoBulkEntries entries + 1
  | .held _ => 1
def uptoBulkAll {H : Type} : List (DataW H) → Nat
  | [] => 0
  | d :: r => uptoBulk d + uptoBulkAll r
def uptoBulkEntries {H : Type} : List (Lit × DataW H) → Nat
  | [] => 0
  | x :: r => uptoBulkEntry x + uptoBulkEntries r
def uptoBulkEntry {H : Type} : Lit × DataW H → Nat
  | (.string bytes, d) => bytes.length + uptoBulk d + 1
  | (_, d) => uptoBulk d + 1
 end
def uptoSmall : (H : Type) → List (DataW H) → Bool := fun _ ds => decide (uptoBulkAll ds ≤ 1048576)
def OpenSpec.upto (s : _root_.Go.ChangeSpec) : _root_.Go.OpenSpec := { _root_.Go.OpenSpec.ofChange s with cond := some uptoSmall }

/-- 'laws.FnFlushTwice', WHERE WHAT IT READS IS OF BULK AT MOST 1048576: true; the input reads as it did. -/
def fnFlushTwiceUptoRow : OpenClaim := { program := "ytjiiobliadeldaa", sum := "b7914e7132abc8abf7d1e0a27415907af143cc984dbaf39af9070e7f74d2a2b7", func := "loop.example/g00975/laws.FnFlushTwice", spec := "fnFlushTwice", unfollowed := true, recurses := true, apart := false, narrowed := true }
def FnFlushTwiceUptoSaid : Prop := fnFlushTwiceUptoRow.holds Try.pinned (OpenSpec.upto fnFlushTwiceSpec)

/-- 'laws.FnTrapped', WHERE WHAT IT READS IS OF BULK AT MOST 1048576: true; the input reads as it did. -/
def fnTrappedUptoRow : OpenClaim := { program := "ytjiiobliadeldaa", sum := "b7914e7132abc8abf7d1e0a27415907af143cc984dbaf39af9070e7f74d2a2b7", func := "loop.example/g00975/laws.FnTrapped", spec := "fnTrapped", apart := false, narrowed := true }
def FnTrappedUptoSaid : Prop := fnTrappedUptoRow.holds Try.pinned (OpenSpec.upto fnTrappedSpec)

/-- 'laws.FnDmaLoad', WHERE WHAT IT READS IS OF BULK AT MOST 1048576: true; the input reads as it did. -/
def fnDmaLoadUptoRow : OpenClaim := { program := "ytjiiobliadeldaa", sum := "b7914e7132abc8abf7d1e0a27415907af143cc984dbaf39af9070e7f74d2a2b7", func := "loop.example/g00975/laws.FnDmaLoad", spec := "fnDmaLoad", apart := false, narrowed := true }
def FnDmaLoadUptoSaid : Prop := fnDmaLoadUptoRow.holds Try.pinned (OpenSpec.upto fnDmaLoadSpec)

/-- 'laws.FnProgram', WHERE WHAT IT READS IS OF BULK AT MOST 1048576: true; the input reads as it did. -/
def fnProgramUptoRow : OpenClaim := { program := "ytjiiobliadeldaa", sum := "b7914e7132abc8abf7d1e0a27415907af143cc984dbaf39af9070e7f74d2a2b7", func := "loop.example/g00975/laws.FnProgram", spec := "fnProgram", apart := false, narrowed := true }
def FnProgramUptoSaid : Prop := fnProgramUptoRow.holds Try.pinned (OpenSpec.upto fnProgramSpec)

/-- 'laws.FnUnflushed', WHERE WHAT IT READS IS OF BULK AT MOST 1048576: true; the input reads as it did. -/
def fnUnflushedUptoRow : OpenClaim := { program := "ytjiiobliadeldaa", sum := "b7914e7132abc8abf7d1e0a27415907af143cc984dbaf39af9070e7f74d2a2b7", func := "loop.example/g00975/laws.FnUnflushed", spec := "fnUnflushed", unfollowed := true, recurses := true, apart := false, narrowed := true }
def FnUnflushedUptoSaid : Prop := fnUnflushedUptoRow.holds Try.pinned (OpenSpec.upto fnUnflushedSpec)

/-- 'laws.FnMasked', WHERE WHAT IT READS IS OF BULK AT MOST 1048576: true; the input reads as it did. -/
def fnMaskedUptoRow : OpenClaim := { program := "ytjiiobliadeldaa", sum := "b7914e7132abc8abf7d1e0a27415907af143cc984dbaf39af9070e7f74d2a2b7", func := "loop.example/g00975/laws.FnMasked", spec := "fnMasked", unfollowed := true, recurses := true, apart := false, narrowed := true }
def FnMaskedUptoSaid : Prop := fnMaskedUptoRow.holds Try.pinned (OpenSpec.upto fnMaskedSpec)

/-- 'laws.FnStands', WHERE WHAT IT READS IS OF BULK AT MOST 1048576: true; the input reads as it did. -/
def fnStandsUptoRow : OpenClaim := { program := "ytjiiobliadeldaa", sum := "b7914e7132abc8abf7d1e0a27415907af143cc984dbaf39af9070e7f74d2a2b7", func := "loop.example/g00975/laws.FnStands", spec := "fnStands", apart := false, narrowed := true }
def FnStandsUptoSaid : Prop := fnStandsUptoRow.holds Try.pinned (OpenSpec.upto fnStandsSpec)

end Rows
end Go.Proofs.Ytjiiobliadeldaa
