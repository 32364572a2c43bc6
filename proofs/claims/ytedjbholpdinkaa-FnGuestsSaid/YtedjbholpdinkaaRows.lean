/-
  No cell of these rows narrows 'for every input' (looked for: loops, veiled, ifaces, maps, wideKeys, modest, calm, conditions, laid).
  DERIVED. THE GIVEN ROWS OF THIS SEAT. 9 by the template 'for every input the law returns true; each argument reads behind the call as it read before'; 0 by the template 'total and deterministic' (their statements: YtedjbholpdinkaaTotals.lean).
  GIVEN WITH THE SEED: the statements are not yours to turn. If you find one false, say at which input.
  Laid BY PROGRAM, IN A SANDBOX (cutbox-rows.mjs): the forced cells as the released guide's own fill.sh prints them over the translation b8c5a2446d346b0c… (all of the seat's roots in one cut). By AI agents, Wed Nov 11 2026. No macro, syntax, notation, axiom, sorry.
-/
import Derived.Test.YtedjbholpdinkaaChecked
import GoSem.Claim
import GoSem.ClaimJoined
import GoSem.ClaimMapViews
import Derived.JoinedTies
import Derived.KernelRfl
namespace Go.Proofs.Ytedjbholpdinkaa
/- THE CELL 'sum', in the pinned program and in every row, IS THE sha256 OF THE DUMP (.gsa) THAT YtedjbholpdinkaaProg.lean LOADS. Nothing in Lean hashes anything: it is a label: what it is worth is what the hold of that sum in a sandbox is worth. -/
noncomputable def Try.pinned : Pinned := { name := "ytedjbholpdinkaa", sum := "b8c5a2446d346b0c30cd40daa5ebd49eeb28c3c4a12e17541026071ea236e162", checked := Try.checked }
namespace Rows
def none {H : Type} : Left H := { results := [], args := [] }

/-- 'laws.FnSeenCap': WHATEVER THE INPUT: true; the input reads as it did. -/
def fnSeenCapSpec : ChangeSpec := { name := "fnSeenCap", fn := fun _ => fun
  | [d] => { results := [.lit (.bool true)], args := [d] }
  | _ => none }
def fnSeenCapRow : OpenClaim := { program := "ytedjbholpdinkaa", sum := "b8c5a2446d346b0c30cd40daa5ebd49eeb28c3c4a12e17541026071ea236e162", func := "loop.example/g00975/laws.FnSeenCap", spec := "fnSeenCap", apart := false }
def FnSeenCapSaid : Prop := fnSeenCapRow.holds Try.pinned (OpenSpec.ofChange fnSeenCapSpec)

/-- ITS FALSE NEIGHBOUR: 'it returns false'. Refute it at one input. -/
def fnSeenCapWrong : ChangeSpec := { name := "fnSeenCap", fn := fun _ => fun
  | [d] => { results := [.lit (.bool false)], args := [d] }
  | _ => none }
def FnSeenCapWrongFalsely : Prop := fnSeenCapRow.holds Try.pinned (OpenSpec.ofChange fnSeenCapWrong)

/-- 'laws.FnIrqOrder': WHATEVER THE INPUT: true; the input reads as it did. -/
def fnIrqOrderSpec : ChangeSpec := { name := "fnIrqOrder", fn := fun _ => fun
  | [d] => { results := [.lit (.bool true)], args := [d] }
  | _ => none }
def fnIrqOrderRow : OpenClaim := { program := "ytedjbholpdinkaa", sum := "b8c5a2446d346b0c30cd40daa5ebd49eeb28c3c4a12e17541026071ea236e162", func := "loop.example/g00975/laws.FnIrqOrder", spec := "fnIrqOrder", apart := false }
def FnIrqOrderSaid : Prop := fnIrqOrderRow.holds Try.pinned (OpenSpec.ofChange fnIrqOrderSpec)

/-- ITS FALSE NEIGHBOUR: 'it returns false'. Refute it at one input. -/
def fnIrqOrderWrong : ChangeSpec := { name := "fnIrqOrder", fn := fun _ => fun
  | [d] => { results := [.lit (.bool false)], args := [d] }
  | _ => none }
def FnIrqOrderWrongFalsely : Prop := fnIrqOrderRow.holds Try.pinned (OpenSpec.ofChange fnIrqOrderWrong)

/-- 'laws.FnIrqs': WHATEVER THE INPUT: true; the input reads as it did. -/
def fnIrqsSpec : ChangeSpec := { name := "fnIrqs", fn := fun _ => fun
  | [d] => { results := [.lit (.bool true)], args := [d] }
  | _ => none }
def fnIrqsRow : OpenClaim := { program := "ytedjbholpdinkaa", sum := "b8c5a2446d346b0c30cd40daa5ebd49eeb28c3c4a12e17541026071ea236e162", func := "loop.example/g00975/laws.FnIrqs", spec := "fnIrqs", apart := false }
def FnIrqsSaid : Prop := fnIrqsRow.holds Try.pinned (OpenSpec.ofChange fnIrqsSpec)

/-- ITS FALSE NEIGHBOUR: 'it returns false'. Refute it at one input. -/
def fnIrqsWrong : ChangeSpec := { name := "fnIrqs", fn := fun _ => fun
  | [d] => { results := [.lit (.bool false)], args := [d] }
  | _ => none }
def FnIrqsWrongFalsely : Prop := fnIrqsRow.holds Try.pinned (OpenSpec.ofChange fnIrqsWrong)

/-- 'laws.FnSums': WHATEVER THE INPUT: true; the input reads as it did. -/
def fnSumsSpec : ChangeSpec := { name := "fnSums", fn := fun _ => fun
  | [d] => { results := [.lit (.bool true)], args := [d] }
  | _ => none }
def fnSumsRow : OpenClaim := { program := "ytedjbholpdinkaa", sum := "b8c5a2446d346b0c30cd40daa5ebd49eeb28c3c4a12e17541026071ea236e162", func := "loop.example/g00975/laws.FnSums", spec := "fnSums", apart := false }
def FnSumsSaid : Prop := fnSumsRow.holds Try.pinned (OpenSpec.ofChange fnSumsSpec)

/-- ITS FALSE NEIGHBOUR: 'it returns false'. Refute it at one input. -/
def fnSumsWrong : ChangeSpec := { name := "fnSums", fn := fun _ => fun
  | [d] => { results := [.lit (.bool false)], args := [d] }
  | _ => none }
def FnSumsWrongFalsely : Prop := fnSumsRow.holds Try.pinned (OpenSpec.ofChange fnSumsWrong)

/-- 'laws.FnExactSameGuest': WHATEVER THE INPUT: true; the input reads as it did. -/
def fnExactSameGuestSpec : ChangeSpec := { name := "fnExactSameGuest", fn := fun _ => fun
  | [d1, d2] => { results := [.lit (.bool true)], args := [d1, d2] }
  | _ => none }
def fnExactSameGuestRow : OpenClaim := { program := "ytedjbholpdinkaa", sum := "b8c5a2446d346b0c30cd40daa5ebd49eeb28c3c4a12e17541026071ea236e162", func := "loop.example/g00975/laws.FnExactSameGuest", spec := "fnExactSameGuest", apart := false }
def FnExactSameGuestSaid : Prop := fnExactSameGuestRow.holds Try.pinned (OpenSpec.ofChange fnExactSameGuestSpec)

/-- ITS FALSE NEIGHBOUR: 'it returns false'. Refute it at one input. -/
def fnExactSameGuestWrong : ChangeSpec := { name := "fnExactSameGuest", fn := fun _ => fun
  | [d1, d2] => { results := [.lit (.bool false)], args := [d1, d2] }
  | _ => none }
def FnExactSameGuestWrongFalsely : Prop := fnExactSameGuestRow.holds Try.pinned (OpenSpec.ofChange fnExactSameGuestWrong)

/-- 'laws.FnExactGuestNew': WHATEVER THE INPUT: true; the input reads as it did. -/
def fnExactGuestNewSpec : ChangeSpec := { name := "fnExactGuestNew", fn := fun _ => fun
  | [d] => { results := [.lit (.bool true)], args := [d] }
  | _ => none }
def fnExactGuestNewRow : OpenClaim := { program := "ytedjbholpdinkaa", sum := "b8c5a2446d346b0c30cd40daa5ebd49eeb28c3c4a12e17541026071ea236e162", func := "loop.example/g00975/laws.FnExactGuestNew", spec := "fnExactGuestNew", apart := false }
def FnExactGuestNewSaid : Prop := fnExactGuestNewRow.holds Try.pinned (OpenSpec.ofChange fnExactGuestNewSpec)

/-- ITS FALSE NEIGHBOUR: 'it returns false'. Refute it at one input. -/
def fnExactGuestNewWrong : ChangeSpec := { name := "fnExactGuestNew", fn := fun _ => fun
  | [d] => { results := [.lit (.bool false)], args := [d] }
  | _ => none }
def FnExactGuestNewWrongFalsely : Prop := fnExactGuestNewRow.holds Try.pinned (OpenSpec.ofChange fnExactGuestNewWrong)

/-- 'laws.FnExactStopped': WHATEVER THE INPUT: true; the input reads as it did. -/
def fnExactStoppedSpec : ChangeSpec := { name := "fnExactStopped", fn := fun _ => fun
  | [d1, d2] => { results := [.lit (.bool true)], args := [d1, d2] }
  | _ => none }
def fnExactStoppedRow : OpenClaim := { program := "ytedjbholpdinkaa", sum := "b8c5a2446d346b0c30cd40daa5ebd49eeb28c3c4a12e17541026071ea236e162", func := "loop.example/g00975/laws.FnExactStopped", spec := "fnExactStopped", apart := false }
def FnExactStoppedSaid : Prop := fnExactStoppedRow.holds Try.pinned (OpenSpec.ofChange fnExactStoppedSpec)

/-- ITS FALSE NEIGHBOUR: 'it returns false'. Refute it at one input. -/
def fnExactStoppedWrong : ChangeSpec := { name := "fnExactStopped", fn := fun _ => fun
  | [d1, d2] => { results := [.lit (.bool false)], args := [d1, d2] }
  | _ => none }
def FnExactStoppedWrongFalsely : Prop := fnExactStoppedRow.holds Try.pinned (OpenSpec.ofChange fnExactStoppedWrong)

/-- 'laws.FnWants': WHATEVER THE INPUT: true; the input reads as it did. -/
def fnWantsSpec : ChangeSpec := { name := "fnWants", fn := fun _ => fun
  | [d] => { results := [.lit (.bool true)], args := [d] }
  | _ => none }
def fnWantsRow : OpenClaim := { program := "ytedjbholpdinkaa", sum := "b8c5a2446d346b0c30cd40daa5ebd49eeb28c3c4a12e17541026071ea236e162", func := "loop.example/g00975/laws.FnWants", spec := "fnWants", apart := false }
def FnWantsSaid : Prop := fnWantsRow.holds Try.pinned (OpenSpec.ofChange fnWantsSpec)

/-- ITS FALSE NEIGHBOUR: 'it returns false'. Refute it at one input. -/
def fnWantsWrong : ChangeSpec := { name := "fnWants", fn := fun _ => fun
  | [d] => { results := [.lit (.bool false)], args := [d] }
  | _ => none }
def FnWantsWrongFalsely : Prop := fnWantsRow.holds Try.pinned (OpenSpec.ofChange fnWantsWrong)

/-- 'laws.FnGuests': WHATEVER THE INPUT: true; the input reads as it did. -/
def fnGuestsSpec : ChangeSpec := { name := "fnGuests", fn := fun _ => fun
  | [d] => { results := [.lit (.bool true)], args := [d] }
  | _ => none }
def fnGuestsRow : OpenClaim := { program := "ytedjbholpdinkaa", sum := "b8c5a2446d346b0c30cd40daa5ebd49eeb28c3c4a12e17541026071ea236e162", func := "loop.example/g00975/laws.FnGuests", spec := "fnGuests", apart := false }
def FnGuestsSaid : Prop := fnGuestsRow.holds Try.pinned (OpenSpec.ofChange fnGuestsSpec)

/-- ITS FALSE NEIGHBOUR: 'it returns false'. Refute it at one input. -/
def fnGuestsWrong : ChangeSpec := { name := "fnGuests", fn := fun _ => fun
  | [d] => { results := [.lit (.bool false)], args := [d] }
  | _ => none }
def FnGuestsWrongFalsely : Prop := fnGuestsRow.holds Try.pinned (OpenSpec.ofChange fnGuestsWrong)

/- THE SECOND FORM. 'bulk': how many values and letters a reading holds, each counted each time it is reached (what is shared counts as often as it is met; a slice's spare places count too). A statement '..UptoSaid' is the law's where the arguments, and the package variables that the reading takes, are together of bulk at most 1048576: NARROWER than '..Said'. Prove '..Said' where nothing that the law and all that it calls make is longer than what came in: it says more and counts as full. Else prove '..UptoSaid'. A law counts once. -/
mutual
def uptoBulk {H : Type} : DataW H → Nat
  | .lit (.string bytes) => bytes.length + 1
  | .lit _ => 1
  | .nil => 1
  | .ptr d => uptoBulk d + 1
  | .slice elems spare => uptoBulkAll elems + uptoBulkAll spare + 1
  | .agg parts => uptoBulkAll parts + 1
  | .iface _ d => uptoBulk d + 1
  | .map entries => uptoBulkEntries entries + 1
  | .held _ => 1
def uptoBulkAll {H : Type} : List (DataW H) → Nat
  | [] => 0
  | d :: r => uptoBulk d + uptoBulkAll r
def uptoBulkEntries {H : Type} : List (Lit × DataW H) → Nat
  | [] => 0
  | x :: r => uptoBulkEntry x + uptoBulkEntries r
def uptoBulkEntry {H : Type} : Lit × DataW H → Nat
  | (.string bytes, d) => bytes.length + uptoBulk d + 1
  | (_, d) => uptoBulk d + 1
 end
def uptoSmall : (H : Type) → List (DataW H) → Bool := fun _ ds => decide (uptoBulkAll ds ≤ 1048576)
def OpenSpec.upto (s : _root_.Go.ChangeSpec) : _root_.Go.OpenSpec := { _root_.Go.OpenSpec.ofChange s with cond := some uptoSmall }

/-- 'laws.FnSeenCap', WHERE WHAT IT READS IS OF BULK AT MOST 1048576: true; the input reads as it did. -/
def fnSeenCapUptoRow : OpenClaim := { program := "ytedjbholpdinkaa", sum := "b8c5a2446d346b0c30cd40daa5ebd49eeb28c3c4a12e17541026071ea236e162", func := "loop.example/g00975/laws.FnSeenCap", spec := "fnSeenCap", apart := false, narrowed := true }
def FnSeenCapUptoSaid : Prop := fnSeenCapUptoRow.holds Try.pinned (OpenSpec.upto fnSeenCapSpec)

/-- 'laws.FnIrqOrder', WHERE WHAT IT READS IS OF BULK AT MOST 1048576: true; the input reads as it did. -/
def fnIrqOrderUptoRow : OpenClaim := { program := "ytedjbholpdinkaa", sum := "b8c5a2446d346b0c30cd40daa5ebd49eeb28c3c4a12e17541026071ea236e162", func := "loop.example/g00975/laws.FnIrqOrder", spec := "fnIrqOrder", apart := false, narrowed := true }
def FnIrqOrderUptoSaid : Prop := fnIrqOrderUptoRow.holds Try.pinned (OpenSpec.upto fnIrqOrderSpec)

/-- 'laws.FnIrqs', WHERE WHAT IT READS IS OF BULK AT MOST 1048576: true; the input reads as it did. -/
def fnIrqsUptoRow : OpenClaim := { program := "ytedjbholpdinkaa", sum := "b8c5a2446d346b0c30cd40daa5ebd49eeb28c3c4a12e17541026071ea236e162", func := "loop.example/g00975/laws.FnIrqs", spec := "fnIrqs", apart := false, narrowed := true }
def FnIrqsUptoSaid : Prop := fnIrqsUptoRow.holds Try.pinned (OpenSpec.upto fnIrqsSpec)

/-- 'laws.FnSums', WHERE WHAT IT READS IS OF BULK AT MOST 1048576: true; the input reads as it did. -/
def fnSumsUptoRow : OpenClaim := { program := "ytedjbholpdinkaa", sum := "b8c5a2446d346b0c30cd40daa5ebd49eeb28c3c4a12e17541026071ea236e162", func := "loop.example/g00975/laws.FnSums", spec := "fnSums", apart := false, narrowed := true }
def FnSumsUptoSaid : Prop := fnSumsUptoRow.holds Try.pinned (OpenSpec.upto fnSumsSpec)

/-- 'laws.FnExactSameGuest', WHERE WHAT IT READS IS OF BULK AT MOST 1048576: true; the input reads as it did. -/
def fnExactSameGuestUptoRow : OpenClaim := { program := "ytedjbholpdinkaa", sum := "b8c5a2446d346b0c30cd40daa5ebd49eeb28c3c4a12e17541026071ea236e162", func := "loop.example/g00975/laws.FnExactSameGuest", spec := "fnExactSameGuest", apart := false, narrowed := true }
def FnExactSameGuestUptoSaid : Prop := fnExactSameGuestUptoRow.holds Try.pinned (OpenSpec.upto fnExactSameGuestSpec)

/-- 'laws.FnExactGuestNew', WHERE WHAT IT READS IS OF BULK AT MOST 1048576: true; the input reads as it did. -/
def fnExactGuestNewUptoRow : OpenClaim := { program := "ytedjbholpdinkaa", sum := "b8c5a2446d346b0c30cd40daa5ebd49eeb28c3c4a12e17541026071ea236e162", func := "loop.example/g00975/laws.FnExactGuestNew", spec := "fnExactGuestNew", apart := false, narrowed := true }
def FnExactGuestNewUptoSaid : Prop := fnExactGuestNewUptoRow.holds Try.pinned (OpenSpec.upto fnExactGuestNewSpec)

/-- 'laws.FnExactStopped', WHERE WHAT IT READS IS OF BULK AT MOST 1048576: true; the input reads as it did. -/
def fnExactStoppedUptoRow : OpenClaim := { program := "ytedjbholpdinkaa", sum := "b8c5a2446d346b0c30cd40daa5ebd49eeb28c3c4a12e17541026071ea236e162", func := "loop.example/g00975/laws.FnExactStopped", spec := "fnExactStopped", apart := false, narrowed := true }
def FnExactStoppedUptoSaid : Prop := fnExactStoppedUptoRow.holds Try.pinned (OpenSpec.upto fnExactStoppedSpec)

/-- 'laws.FnWants', WHERE WHAT IT READS IS OF BULK AT MOST 1048576: true; the input reads as it did. -/
def fnWantsUptoRow : OpenClaim := { program := "ytedjbholpdinkaa", sum := "b8c5a2446d346b0c30cd40daa5ebd49eeb28c3c4a12e17541026071ea236e162", func := "loop.example/g00975/laws.FnWants", spec := "fnWants", apart := false, narrowed := true }
def FnWantsUptoSaid : Prop := fnWantsUptoRow.holds Try.pinned (OpenSpec.upto fnWantsSpec)

/-- 'laws.FnGuests', WHERE WHAT IT READS IS OF BULK AT MOST 1048576: true; the input reads as it did. -/
def fnGuestsUptoRow : OpenClaim := { program := "ytedjbholpdinkaa", sum := "b8c5a2446d346b0c30cd40daa5ebd49eeb28c3c4a12e17541026071ea236e162", func := "loop.example/g00975/laws.FnGuests", spec := "fnGuests", apart := false, narrowed := true }
def FnGuestsUptoSaid : Prop := fnGuestsUptoRow.holds Try.pinned (OpenSpec.upto fnGuestsSpec)

end Rows
end Go.Proofs.Ytedjbholpdinkaa
