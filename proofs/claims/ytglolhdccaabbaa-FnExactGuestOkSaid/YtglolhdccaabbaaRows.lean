/-
  No cell of these rows narrows 'for every input' (looked for: loops, veiled, ifaces, maps, wideKeys, modest, calm, conditions, laid).
  DERIVED. THE GIVEN ROWS OF THIS SEAT. 24 by the template 'for every input the law returns true; each argument reads behind the call as it read before'; 0 by the template 'total and deterministic' (their statements: YtglolhdccaabbaaTotals.lean).
  GIVEN WITH THE SEED: the statements are not yours to turn. If you find one false, say at which input.
  Laid BY PROGRAM, IN A SANDBOX (cutbox-rows.mjs): the forced cells as the released guide's own fill.sh prints them over the translation 1b6beef600880b80… (all of the seat's roots in one cut). By AI agents, Wed Nov 11 2026. No macro, syntax, notation, axiom, sorry.
-/
import Derived.Test.YtglolhdccaabbaaChecked
import GoSem.Claim
import GoSem.ClaimJoined
import GoSem.ClaimMapViews
import Derived.JoinedTies
import Derived.KernelRfl
namespace Go.Proofs.Ytglolhdccaabbaa
/- THE CELL 'sum', in the pinned program and in every row, IS THE sha256 OF THE DUMP (.gsa) THAT YtglolhdccaabbaaProg.lean LOADS. Nothing in Lean hashes anything: it is a label: what it is worth is what the hold of that sum in a sandbox is worth. -/
noncomputable def Try.pinned : Pinned := { name := "ytglolhdccaabbaa", sum := "1b6beef600880b809b03f0be47472ab5635dcb34117392a7cefb521de417b030", checked := Try.checked }
namespace Rows
def none {H : Type} : Left H := { results := [], args := [] }

/-- 'laws.FnExactTopIrq': WHATEVER THE INPUT: true; the input reads as it did. -/
def fnExactTopIrqSpec : ChangeSpec := { name := "fnExactTopIrq", fn := fun _ => fun
  | [d] => { results := [.lit (.bool true)], args := [d] }
  | _ => none }
def fnExactTopIrqRow : OpenClaim := { program := "ytglolhdccaabbaa", sum := "1b6beef600880b809b03f0be47472ab5635dcb34117392a7cefb521de417b030", func := "loop.example/g00975/laws.FnExactTopIrq", spec := "fnExactTopIrq", apart := false }
def FnExactTopIrqSaid : Prop := fnExactTopIrqRow.holds Try.pinned (OpenSpec.ofChange fnExactTopIrqSpec)

/-- ITS FALSE NEIGHBOUR: 'it returns false'. Refute it at one input. -/
def fnExactTopIrqWrong : ChangeSpec := { name := "fnExactTopIrq", fn := fun _ => fun
  | [d] => { results := [.lit (.bool false)], args := [d] }
  | _ => none }
def FnExactTopIrqWrongFalsely : Prop := fnExactTopIrqRow.holds Try.pinned (OpenSpec.ofChange fnExactTopIrqWrong)

/-- 'laws.FnExactIrqCount': WHATEVER THE INPUT: true; the input reads as it did. -/
def fnExactIrqCountSpec : ChangeSpec := { name := "fnExactIrqCount", fn := fun _ => fun
  | [d] => { results := [.lit (.bool true)], args := [d] }
  | _ => none }
def fnExactIrqCountRow : OpenClaim := { program := "ytglolhdccaabbaa", sum := "1b6beef600880b809b03f0be47472ab5635dcb34117392a7cefb521de417b030", func := "loop.example/g00975/laws.FnExactIrqCount", spec := "fnExactIrqCount", apart := false }
def FnExactIrqCountSaid : Prop := fnExactIrqCountRow.holds Try.pinned (OpenSpec.ofChange fnExactIrqCountSpec)

/-- ITS FALSE NEIGHBOUR: 'it returns false'. Refute it at one input. -/
def fnExactIrqCountWrong : ChangeSpec := { name := "fnExactIrqCount", fn := fun _ => fun
  | [d] => { results := [.lit (.bool false)], args := [d] }
  | _ => none }
def FnExactIrqCountWrongFalsely : Prop := fnExactIrqCountRow.holds Try.pinned (OpenSpec.ofChange fnExactIrqCountWrong)

/-- 'laws.FnExactTakeIrq': WHATEVER THE INPUT: true; the input reads as it did. -/
def fnExactTakeIrqSpec : ChangeSpec := { name := "fnExactTakeIrq", fn := fun _ => fun
  | [d] => { results := [.lit (.bool true)], args := [d] }
  | _ => none }
def fnExactTakeIrqRow : OpenClaim := { program := "ytglolhdccaabbaa", sum := "1b6beef600880b809b03f0be47472ab5635dcb34117392a7cefb521de417b030", func := "loop.example/g00975/laws.FnExactTakeIrq", spec := "fnExactTakeIrq", apart := false }
def FnExactTakeIrqSaid : Prop := fnExactTakeIrqRow.holds Try.pinned (OpenSpec.ofChange fnExactTakeIrqSpec)

/-- ITS FALSE NEIGHBOUR: 'it returns false'. Refute it at one input. -/
def fnExactTakeIrqWrong : ChangeSpec := { name := "fnExactTakeIrq", fn := fun _ => fun
  | [d] => { results := [.lit (.bool false)], args := [d] }
  | _ => none }
def FnExactTakeIrqWrongFalsely : Prop := fnExactTakeIrqRow.holds Try.pinned (OpenSpec.ofChange fnExactTakeIrqWrong)

/-- 'laws.FnSeenCap': WHATEVER THE INPUT: true; the input reads as it did. -/
def fnSeenCapSpec : ChangeSpec := { name := "fnSeenCap", fn := fun _ => fun
  | [d] => { results := [.lit (.bool true)], args := [d] }
  | _ => none }
def fnSeenCapRow : OpenClaim := { program := "ytglolhdccaabbaa", sum := "1b6beef600880b809b03f0be47472ab5635dcb34117392a7cefb521de417b030", func := "loop.example/g00975/laws.FnSeenCap", spec := "fnSeenCap", apart := false }
def FnSeenCapSaid : Prop := fnSeenCapRow.holds Try.pinned (OpenSpec.ofChange fnSeenCapSpec)

/-- ITS FALSE NEIGHBOUR: 'it returns false'. Refute it at one input. -/
def fnSeenCapWrong : ChangeSpec := { name := "fnSeenCap", fn := fun _ => fun
  | [d] => { results := [.lit (.bool false)], args := [d] }
  | _ => none }
def FnSeenCapWrongFalsely : Prop := fnSeenCapRow.holds Try.pinned (OpenSpec.ofChange fnSeenCapWrong)

/-- 'laws.FnIrqOrder': WHATEVER THE INPUT: true; the input reads as it did. -/
def fnIrqOrderSpec : ChangeSpec := { name := "fnIrqOrder", fn := fun _ => fun
  | [d] => { results := [.lit (.bool true)], args := [d] }
  | _ => none }
def fnIrqOrderRow : OpenClaim := { program := "ytglolhdccaabbaa", sum := "1b6beef600880b809b03f0be47472ab5635dcb34117392a7cefb521de417b030", func := "loop.example/g00975/laws.FnIrqOrder", spec := "fnIrqOrder", apart := false }
def FnIrqOrderSaid : Prop := fnIrqOrderRow.holds Try.pinned (OpenSpec.ofChange fnIrqOrderSpec)

/-- ITS FALSE NEIGHBOUR: 'it returns false'. Refute it at one input. -/
def fnIrqOrderWrong : ChangeSpec := { name := "fnIrqOrder", fn := fun _ => fun
  | [d] => { results := [.lit (.bool false)], args := [d] }
  | _ => none }
def FnIrqOrderWrongFalsely : Prop := fnIrqOrderRow.holds Try.pinned (OpenSpec.ofChange fnIrqOrderWrong)

/-- 'laws.FnIrqs': WHATEVER THE INPUT: true; the input reads as it did. -/
def fnIrqsSpec : ChangeSpec := { name := "fnIrqs", fn := fun _ => fun
  | [d] => { results := [.lit (.bool true)], args := [d] }
  | _ => none }
def fnIrqsRow : OpenClaim := { program := "ytglolhdccaabbaa", sum := "1b6beef600880b809b03f0be47472ab5635dcb34117392a7cefb521de417b030", func := "loop.example/g00975/laws.FnIrqs", spec := "fnIrqs", apart := false }
def FnIrqsSaid : Prop := fnIrqsRow.holds Try.pinned (OpenSpec.ofChange fnIrqsSpec)

/-- ITS FALSE NEIGHBOUR: 'it returns false'. Refute it at one input. -/
def fnIrqsWrong : ChangeSpec := { name := "fnIrqs", fn := fun _ => fun
  | [d] => { results := [.lit (.bool false)], args := [d] }
  | _ => none }
def FnIrqsWrongFalsely : Prop := fnIrqsRow.holds Try.pinned (OpenSpec.ofChange fnIrqsWrong)

/-- 'laws.FnExactCanRun': WHATEVER THE INPUT: true; the input reads as it did. -/
def fnExactCanRunSpec : ChangeSpec := { name := "fnExactCanRun", fn := fun _ => fun
  | [d] => { results := [.lit (.bool true)], args := [d] }
  | _ => none }
def fnExactCanRunRow : OpenClaim := { program := "ytglolhdccaabbaa", sum := "1b6beef600880b809b03f0be47472ab5635dcb34117392a7cefb521de417b030", func := "loop.example/g00975/laws.FnExactCanRun", spec := "fnExactCanRun", apart := false }
def FnExactCanRunSaid : Prop := fnExactCanRunRow.holds Try.pinned (OpenSpec.ofChange fnExactCanRunSpec)

/-- ITS FALSE NEIGHBOUR: 'it returns false'. Refute it at one input. -/
def fnExactCanRunWrong : ChangeSpec := { name := "fnExactCanRun", fn := fun _ => fun
  | [d] => { results := [.lit (.bool false)], args := [d] }
  | _ => none }
def FnExactCanRunWrongFalsely : Prop := fnExactCanRunRow.holds Try.pinned (OpenSpec.ofChange fnExactCanRunWrong)

/-- 'laws.FnSums': WHATEVER THE INPUT: true; the input reads as it did. -/
def fnSumsSpec : ChangeSpec := { name := "fnSums", fn := fun _ => fun
  | [d] => { results := [.lit (.bool true)], args := [d] }
  | _ => none }
def fnSumsRow : OpenClaim := { program := "ytglolhdccaabbaa", sum := "1b6beef600880b809b03f0be47472ab5635dcb34117392a7cefb521de417b030", func := "loop.example/g00975/laws.FnSums", spec := "fnSums", apart := false }
def FnSumsSaid : Prop := fnSumsRow.holds Try.pinned (OpenSpec.ofChange fnSumsSpec)

/-- ITS FALSE NEIGHBOUR: 'it returns false'. Refute it at one input. -/
def fnSumsWrong : ChangeSpec := { name := "fnSums", fn := fun _ => fun
  | [d] => { results := [.lit (.bool false)], args := [d] }
  | _ => none }
def FnSumsWrongFalsely : Prop := fnSumsRow.holds Try.pinned (OpenSpec.ofChange fnSumsWrong)

/-- 'laws.FnExactSameGuest': WHATEVER THE INPUT: true; the input reads as it did. -/
def fnExactSameGuestSpec : ChangeSpec := { name := "fnExactSameGuest", fn := fun _ => fun
  | [d1, d2] => { results := [.lit (.bool true)], args := [d1, d2] }
  | _ => none }
def fnExactSameGuestRow : OpenClaim := { program := "ytglolhdccaabbaa", sum := "1b6beef600880b809b03f0be47472ab5635dcb34117392a7cefb521de417b030", func := "loop.example/g00975/laws.FnExactSameGuest", spec := "fnExactSameGuest", apart := false }
def FnExactSameGuestSaid : Prop := fnExactSameGuestRow.holds Try.pinned (OpenSpec.ofChange fnExactSameGuestSpec)

/-- ITS FALSE NEIGHBOUR: 'it returns false'. Refute it at one input. -/
def fnExactSameGuestWrong : ChangeSpec := { name := "fnExactSameGuest", fn := fun _ => fun
  | [d1, d2] => { results := [.lit (.bool false)], args := [d1, d2] }
  | _ => none }
def FnExactSameGuestWrongFalsely : Prop := fnExactSameGuestRow.holds Try.pinned (OpenSpec.ofChange fnExactSameGuestWrong)

/-- 'laws.FnExactTakesIrq': WHATEVER THE INPUT: true; the input reads as it did. -/
def fnExactTakesIrqSpec : ChangeSpec := { name := "fnExactTakesIrq", fn := fun _ => fun
  | [d] => { results := [.lit (.bool true)], args := [d] }
  | _ => none }
def fnExactTakesIrqRow : OpenClaim := { program := "ytglolhdccaabbaa", sum := "1b6beef600880b809b03f0be47472ab5635dcb34117392a7cefb521de417b030", func := "loop.example/g00975/laws.FnExactTakesIrq", spec := "fnExactTakesIrq", apart := false }
def FnExactTakesIrqSaid : Prop := fnExactTakesIrqRow.holds Try.pinned (OpenSpec.ofChange fnExactTakesIrqSpec)

/-- ITS FALSE NEIGHBOUR: 'it returns false'. Refute it at one input. -/
def fnExactTakesIrqWrong : ChangeSpec := { name := "fnExactTakesIrq", fn := fun _ => fun
  | [d] => { results := [.lit (.bool false)], args := [d] }
  | _ => none }
def FnExactTakesIrqWrongFalsely : Prop := fnExactTakesIrqRow.holds Try.pinned (OpenSpec.ofChange fnExactTakesIrqWrong)

/-- 'laws.FnExactGuestNew': WHATEVER THE INPUT: true; the input reads as it did. -/
def fnExactGuestNewSpec : ChangeSpec := { name := "fnExactGuestNew", fn := fun _ => fun
  | [d] => { results := [.lit (.bool true)], args := [d] }
  | _ => none }
def fnExactGuestNewRow : OpenClaim := { program := "ytglolhdccaabbaa", sum := "1b6beef600880b809b03f0be47472ab5635dcb34117392a7cefb521de417b030", func := "loop.example/g00975/laws.FnExactGuestNew", spec := "fnExactGuestNew", apart := false }
def FnExactGuestNewSaid : Prop := fnExactGuestNewRow.holds Try.pinned (OpenSpec.ofChange fnExactGuestNewSpec)

/-- ITS FALSE NEIGHBOUR: 'it returns false'. Refute it at one input. -/
def fnExactGuestNewWrong : ChangeSpec := { name := "fnExactGuestNew", fn := fun _ => fun
  | [d] => { results := [.lit (.bool false)], args := [d] }
  | _ => none }
def FnExactGuestNewWrongFalsely : Prop := fnExactGuestNewRow.holds Try.pinned (OpenSpec.ofChange fnExactGuestNewWrong)

/-- 'laws.FnExactStopped': WHATEVER THE INPUT: true; the input reads as it did. -/
def fnExactStoppedSpec : ChangeSpec := { name := "fnExactStopped", fn := fun _ => fun
  | [d1, d2] => { results := [.lit (.bool true)], args := [d1, d2] }
  | _ => none }
def fnExactStoppedRow : OpenClaim := { program := "ytglolhdccaabbaa", sum := "1b6beef600880b809b03f0be47472ab5635dcb34117392a7cefb521de417b030", func := "loop.example/g00975/laws.FnExactStopped", spec := "fnExactStopped", apart := false }
def FnExactStoppedSaid : Prop := fnExactStoppedRow.holds Try.pinned (OpenSpec.ofChange fnExactStoppedSpec)

/-- ITS FALSE NEIGHBOUR: 'it returns false'. Refute it at one input. -/
def fnExactStoppedWrong : ChangeSpec := { name := "fnExactStopped", fn := fun _ => fun
  | [d1, d2] => { results := [.lit (.bool false)], args := [d1, d2] }
  | _ => none }
def FnExactStoppedWrongFalsely : Prop := fnExactStoppedRow.holds Try.pinned (OpenSpec.ofChange fnExactStoppedWrong)

/-- 'laws.FnExactWantOf': WHATEVER THE INPUT: true; the input reads as it did. -/
def fnExactWantOfSpec : ChangeSpec := { name := "fnExactWantOf", fn := fun _ => fun
  | [d] => { results := [.lit (.bool true)], args := [d] }
  | _ => none }
def fnExactWantOfRow : OpenClaim := { program := "ytglolhdccaabbaa", sum := "1b6beef600880b809b03f0be47472ab5635dcb34117392a7cefb521de417b030", func := "loop.example/g00975/laws.FnExactWantOf", spec := "fnExactWantOf", apart := false }
def FnExactWantOfSaid : Prop := fnExactWantOfRow.holds Try.pinned (OpenSpec.ofChange fnExactWantOfSpec)

/-- ITS FALSE NEIGHBOUR: 'it returns false'. Refute it at one input. -/
def fnExactWantOfWrong : ChangeSpec := { name := "fnExactWantOf", fn := fun _ => fun
  | [d] => { results := [.lit (.bool false)], args := [d] }
  | _ => none }
def FnExactWantOfWrongFalsely : Prop := fnExactWantOfRow.holds Try.pinned (OpenSpec.ofChange fnExactWantOfWrong)

/-- 'laws.FnExactSaw': WHATEVER THE INPUT: true; the input reads as it did. -/
def fnExactSawSpec : ChangeSpec := { name := "fnExactSaw", fn := fun _ => fun
  | [d1, d2] => { results := [.lit (.bool true)], args := [d1, d2] }
  | _ => none }
def fnExactSawRow : OpenClaim := { program := "ytglolhdccaabbaa", sum := "1b6beef600880b809b03f0be47472ab5635dcb34117392a7cefb521de417b030", func := "loop.example/g00975/laws.FnExactSaw", spec := "fnExactSaw", apart := false }
def FnExactSawSaid : Prop := fnExactSawRow.holds Try.pinned (OpenSpec.ofChange fnExactSawSpec)

/-- ITS FALSE NEIGHBOUR: 'it returns false'. Refute it at one input. -/
def fnExactSawWrong : ChangeSpec := { name := "fnExactSaw", fn := fun _ => fun
  | [d1, d2] => { results := [.lit (.bool false)], args := [d1, d2] }
  | _ => none }
def FnExactSawWrongFalsely : Prop := fnExactSawRow.holds Try.pinned (OpenSpec.ofChange fnExactSawWrong)

/-- 'laws.FnExactMoved': WHATEVER THE INPUT: true; the input reads as it did. -/
def fnExactMovedSpec : ChangeSpec := { name := "fnExactMoved", fn := fun _ => fun
  | [d] => { results := [.lit (.bool true)], args := [d] }
  | _ => none }
def fnExactMovedRow : OpenClaim := { program := "ytglolhdccaabbaa", sum := "1b6beef600880b809b03f0be47472ab5635dcb34117392a7cefb521de417b030", func := "loop.example/g00975/laws.FnExactMoved", spec := "fnExactMoved", apart := false }
def FnExactMovedSaid : Prop := fnExactMovedRow.holds Try.pinned (OpenSpec.ofChange fnExactMovedSpec)

/-- ITS FALSE NEIGHBOUR: 'it returns false'. Refute it at one input. -/
def fnExactMovedWrong : ChangeSpec := { name := "fnExactMoved", fn := fun _ => fun
  | [d] => { results := [.lit (.bool false)], args := [d] }
  | _ => none }
def FnExactMovedWrongFalsely : Prop := fnExactMovedRow.holds Try.pinned (OpenSpec.ofChange fnExactMovedWrong)

/-- 'laws.FnExactStored': WHATEVER THE INPUT: true; the input reads as it did. -/
def fnExactStoredSpec : ChangeSpec := { name := "fnExactStored", fn := fun _ => fun
  | [d] => { results := [.lit (.bool true)], args := [d] }
  | _ => none }
def fnExactStoredRow : OpenClaim := { program := "ytglolhdccaabbaa", sum := "1b6beef600880b809b03f0be47472ab5635dcb34117392a7cefb521de417b030", func := "loop.example/g00975/laws.FnExactStored", spec := "fnExactStored", apart := false }
def FnExactStoredSaid : Prop := fnExactStoredRow.holds Try.pinned (OpenSpec.ofChange fnExactStoredSpec)

/-- ITS FALSE NEIGHBOUR: 'it returns false'. Refute it at one input. -/
def fnExactStoredWrong : ChangeSpec := { name := "fnExactStored", fn := fun _ => fun
  | [d] => { results := [.lit (.bool false)], args := [d] }
  | _ => none }
def FnExactStoredWrongFalsely : Prop := fnExactStoredRow.holds Try.pinned (OpenSpec.ofChange fnExactStoredWrong)

/-- 'laws.FnExactAddress': WHATEVER THE INPUT: true; the input reads as it did. -/
def fnExactAddressSpec : ChangeSpec := { name := "fnExactAddress", fn := fun _ => fun
  | [d] => { results := [.lit (.bool true)], args := [d] }
  | _ => none }
def fnExactAddressRow : OpenClaim := { program := "ytglolhdccaabbaa", sum := "1b6beef600880b809b03f0be47472ab5635dcb34117392a7cefb521de417b030", func := "loop.example/g00975/laws.FnExactAddress", spec := "fnExactAddress", apart := false }
def FnExactAddressSaid : Prop := fnExactAddressRow.holds Try.pinned (OpenSpec.ofChange fnExactAddressSpec)

/-- ITS FALSE NEIGHBOUR: 'it returns false'. Refute it at one input. -/
def fnExactAddressWrong : ChangeSpec := { name := "fnExactAddress", fn := fun _ => fun
  | [d] => { results := [.lit (.bool false)], args := [d] }
  | _ => none }
def FnExactAddressWrongFalsely : Prop := fnExactAddressRow.holds Try.pinned (OpenSpec.ofChange fnExactAddressWrong)

/-- 'laws.FnExactHeld': WHATEVER THE INPUT: true; the input reads as it did. -/
def fnExactHeldSpec : ChangeSpec := { name := "fnExactHeld", fn := fun _ => fun
  | [d] => { results := [.lit (.bool true)], args := [d] }
  | _ => none }
def fnExactHeldRow : OpenClaim := { program := "ytglolhdccaabbaa", sum := "1b6beef600880b809b03f0be47472ab5635dcb34117392a7cefb521de417b030", func := "loop.example/g00975/laws.FnExactHeld", spec := "fnExactHeld", apart := false }
def FnExactHeldSaid : Prop := fnExactHeldRow.holds Try.pinned (OpenSpec.ofChange fnExactHeldSpec)

/-- ITS FALSE NEIGHBOUR: 'it returns false'. Refute it at one input. -/
def fnExactHeldWrong : ChangeSpec := { name := "fnExactHeld", fn := fun _ => fun
  | [d] => { results := [.lit (.bool false)], args := [d] }
  | _ => none }
def FnExactHeldWrongFalsely : Prop := fnExactHeldRow.holds Try.pinned (OpenSpec.ofChange fnExactHeldWrong)

/-- 'laws.FnExactGuestOk': WHATEVER THE INPUT: true; the input reads as it did. -/
def fnExactGuestOkSpec : ChangeSpec := { name := "fnExactGuestOk", fn := fun _ => fun
  | [d] => { results := [.lit (.bool true)], args := [d] }
  | _ => none }
def fnExactGuestOkRow : OpenClaim := { program := "ytglolhdccaabbaa", sum := "1b6beef600880b809b03f0be47472ab5635dcb34117392a7cefb521de417b030", func := "loop.example/g00975/laws.FnExactGuestOk", spec := "fnExactGuestOk", apart := false }
def FnExactGuestOkSaid : Prop := fnExactGuestOkRow.holds Try.pinned (OpenSpec.ofChange fnExactGuestOkSpec)

/-- ITS FALSE NEIGHBOUR: 'it returns false'. Refute it at one input. -/
def fnExactGuestOkWrong : ChangeSpec := { name := "fnExactGuestOk", fn := fun _ => fun
  | [d] => { results := [.lit (.bool false)], args := [d] }
  | _ => none }
def FnExactGuestOkWrongFalsely : Prop := fnExactGuestOkRow.holds Try.pinned (OpenSpec.ofChange fnExactGuestOkWrong)

/-- 'laws.FnExactLoaded': WHATEVER THE INPUT: true; the input reads as it did. -/
def fnExactLoadedSpec : ChangeSpec := { name := "fnExactLoaded", fn := fun _ => fun
  | [d1, d2] => { results := [.lit (.bool true)], args := [d1, d2] }
  | _ => none }
def fnExactLoadedRow : OpenClaim := { program := "ytglolhdccaabbaa", sum := "1b6beef600880b809b03f0be47472ab5635dcb34117392a7cefb521de417b030", func := "loop.example/g00975/laws.FnExactLoaded", spec := "fnExactLoaded", apart := false }
def FnExactLoadedSaid : Prop := fnExactLoadedRow.holds Try.pinned (OpenSpec.ofChange fnExactLoadedSpec)

/-- ITS FALSE NEIGHBOUR: 'it returns false'. Refute it at one input. -/
def fnExactLoadedWrong : ChangeSpec := { name := "fnExactLoaded", fn := fun _ => fun
  | [d1, d2] => { results := [.lit (.bool false)], args := [d1, d2] }
  | _ => none }
def FnExactLoadedWrongFalsely : Prop := fnExactLoadedRow.holds Try.pinned (OpenSpec.ofChange fnExactLoadedWrong)

/-- 'laws.FnExactInterrupted': WHATEVER THE INPUT: true; the input reads as it did. -/
def fnExactInterruptedSpec : ChangeSpec := { name := "fnExactInterrupted", fn := fun _ => fun
  | [d] => { results := [.lit (.bool true)], args := [d] }
  | _ => none }
def fnExactInterruptedRow : OpenClaim := { program := "ytglolhdccaabbaa", sum := "1b6beef600880b809b03f0be47472ab5635dcb34117392a7cefb521de417b030", func := "loop.example/g00975/laws.FnExactInterrupted", spec := "fnExactInterrupted", apart := false }
def FnExactInterruptedSaid : Prop := fnExactInterruptedRow.holds Try.pinned (OpenSpec.ofChange fnExactInterruptedSpec)

/-- ITS FALSE NEIGHBOUR: 'it returns false'. Refute it at one input. -/
def fnExactInterruptedWrong : ChangeSpec := { name := "fnExactInterrupted", fn := fun _ => fun
  | [d] => { results := [.lit (.bool false)], args := [d] }
  | _ => none }
def FnExactInterruptedWrongFalsely : Prop := fnExactInterruptedRow.holds Try.pinned (OpenSpec.ofChange fnExactInterruptedWrong)

/-- 'laws.FnExactPlainly': WHATEVER THE INPUT: true; the input reads as it did. -/
def fnExactPlainlySpec : ChangeSpec := { name := "fnExactPlainly", fn := fun _ => fun
  | [d] => { results := [.lit (.bool true)], args := [d] }
  | _ => none }
def fnExactPlainlyRow : OpenClaim := { program := "ytglolhdccaabbaa", sum := "1b6beef600880b809b03f0be47472ab5635dcb34117392a7cefb521de417b030", func := "loop.example/g00975/laws.FnExactPlainly", spec := "fnExactPlainly", apart := false }
def FnExactPlainlySaid : Prop := fnExactPlainlyRow.holds Try.pinned (OpenSpec.ofChange fnExactPlainlySpec)

/-- ITS FALSE NEIGHBOUR: 'it returns false'. Refute it at one input. -/
def fnExactPlainlyWrong : ChangeSpec := { name := "fnExactPlainly", fn := fun _ => fun
  | [d] => { results := [.lit (.bool false)], args := [d] }
  | _ => none }
def FnExactPlainlyWrongFalsely : Prop := fnExactPlainlyRow.holds Try.pinned (OpenSpec.ofChange fnExactPlainlyWrong)

/-- 'laws.FnWants': WHATEVER THE INPUT: true; the input reads as it did. -/
def fnWantsSpec : ChangeSpec := { name := "fnWants", fn := fun _ => fun
  | [d] => { results := [.lit (.bool true)], args := [d] }
  | _ => none }
def fnWantsRow : OpenClaim := { program := "ytglolhdccaabbaa", sum := "1b6beef600880b809b03f0be47472ab5635dcb34117392a7cefb521de417b030", func := "loop.example/g00975/laws.FnWants", spec := "fnWants", apart := false }
def FnWantsSaid : Prop := fnWantsRow.holds Try.pinned (OpenSpec.ofChange fnWantsSpec)

/-- ITS FALSE NEIGHBOUR: 'it returns false'. Refute it at one input. -/
def fnWantsWrong : ChangeSpec := { name := "fnWants", fn := fun _ => fun
  | [d] => { results := [.lit (.bool false)], args := [d] }
  | _ => none }
def FnWantsWrongFalsely : Prop := fnWantsRow.holds Try.pinned (OpenSpec.ofChange fnWantsWrong)

/-- 'laws.FnGuests': WHATEVER THE INPUT: true; the input reads as it did. -/
def fnGuestsSpec : ChangeSpec := { name := "fnGuests", fn := fun _ => fun
  | [d] => { results := [.lit (.bool true)], args := [d] }
  | _ => none }
def fnGuestsRow : OpenClaim := { program := "ytglolhdccaabbaa", sum := "1b6beef600880b809b03f0be47472ab5635dcb34117392a7cefb521de417b030", func := "loop.example/g00975/laws.FnGuests", spec := "fnGuests", apart := false }
def FnGuestsSaid : Prop := fnGuestsRow.holds Try.pinned (OpenSpec.ofChange fnGuestsSpec)

/-- ITS FALSE NEIGHBOUR: 'it returns false'. Refute it at one input. -/
def fnGuestsWrong : ChangeSpec := { name := "fnGuests", fn := fun _ => fun
  | [d] => { results := [.lit (.bool false)], args := [d] }
  | _ => none }
def FnGuestsWrongFalsely : Prop := fnGuestsRow.holds Try.pinned (OpenSpec.ofChange fnGuestsWrong)

/- THE SECOND FORM. 'bulk': how many values and letters a reading holds, each counted each time it is reached (what is shared counts as often as it is met; a slice's spare places count too). A statement '..UptoSaid' is the law's where the arguments, and the package variables that the reading takes, are together of bulk at most 1048576: NARROWER than '..Said'. Prove '..Said' where nothing that the law and all that it calls make is longer than what came in: it says more and counts as full. Else prove '..UptoSaid'. A law counts once. -/
mutual
def uptoBulk {H : Type} : DataW H → Nat
  | .lit (.string bytes) => bytes.length + 1
  | .lit _ => 1
  | .nil => 1
  | .ptr d => uptoBulk d + 1
  | .slice elems spare => uptoBulkAll elems + uptoBulkAll spare + 1
  | .agg parts => uptoBulkAll parts + 1
  | .iface _ d => uptoBulk d + 1
  | .map entries => uptoBulkEntries entries + 1
  | .held _ => 1
def uptoBulkAll {H : Type} : List (DataW H) → Nat
  | [] => 0
  | d :: r => uptoBulk d + uptoBulkAll r
def uptoBulkEntries {H : Type} : List (Lit × DataW H) → Nat
  | [] => 0
  | x :: r => uptoBulkEntry x + uptoBulkEntries r
def uptoBulkEntry {H : Type} : Lit × DataW H → Nat
  | (.string bytes, d) => bytes.length + uptoBulk d + 1
  | (_, d) => uptoBulk d + 1
 end
def uptoSmall : (H : Type) → List (DataW H) → Bool := fun _ ds => decide (uptoBulkAll ds ≤ 1048576)
def OpenSpec.upto (s : _root_.Go.ChangeSpec) : _root_.Go.OpenSpec := { _root_.Go.OpenSpec.ofChange s with cond := some uptoSmall }

/-- 'laws.FnExactTopIrq', WHERE WHAT IT READS IS OF BULK AT MOST 1048576: true; the input reads as it did. -/
def fnExactTopIrqUptoRow : OpenClaim := { program := "ytglolhdccaabbaa", sum := "1b6beef600880b809b03f0be47472ab5635dcb34117392a7cefb521de417b030", func := "loop.example/g00975/laws.FnExactTopIrq", spec := "fnExactTopIrq", apart := false, narrowed := true }
def FnExactTopIrqUptoSaid : Prop := fnExactTopIrqUptoRow.holds Try.pinned (OpenSpec.upto fnExactTopIrqSpec)

/-- 'laws.FnExactIrqCount', WHERE WHAT IT READS IS OF BULK AT MOST 1048576: true; the input reads as it did. -/
def fnExactIrqCountUptoRow : OpenClaim := { program := "ytglolhdccaabbaa", sum := "1b6beef600880b809b03f0be47472ab5635dcb34117392a7cefb521de417b030", func := "loop.example/g00975/laws.FnExactIrqCount", spec := "fnExactIrqCount", apart := false, narrowed := true }
def FnExactIrqCountUptoSaid : Prop := fnExactIrqCountUptoRow.holds Try.pinned (OpenSpec.upto fnExactIrqCountSpec)

/-- 'laws.FnExactTakeIrq', WHERE WHAT IT READS IS OF BULK AT MOST 1048576: true; the input reads as it did. -/
def fnExactTakeIrqUptoRow : OpenClaim := { program := "ytglolhdccaabbaa", sum := "1b6beef600880b809b03f0be47472ab5635dcb34117392a7cefb521de417b030", func := "loop.example/g00975/laws.FnExactTakeIrq", spec := "fnExactTakeIrq", apart := false, narrowed := true }
def FnExactTakeIrqUptoSaid : Prop := fnExactTakeIrqUptoRow.holds Try.pinned (OpenSpec.upto fnExactTakeIrqSpec)

/-- 'laws.FnSeenCap', WHERE WHAT IT READS IS OF BULK AT MOST 1048576: true; the input reads as it did. -/
def fnSeenCapUptoRow : OpenClaim := { program := "ytglolhdccaabbaa", sum := "1b6beef600880b809b03f0be47472ab5635dcb34117392a7cefb521de417b030", func := "loop.example/g00975/laws.FnSeenCap", spec := "fnSeenCap", apart := false, narrowed := true }
def FnSeenCapUptoSaid : Prop := fnSeenCapUptoRow.holds Try.pinned (OpenSpec.upto fnSeenCapSpec)

/-- 'laws.FnIrqOrder', WHERE WHAT IT READS IS OF BULK AT MOST 1048576: true; the input reads as it did. -/
def fnIrqOrderUptoRow : OpenClaim := { program := "ytglolhdccaabbaa", sum := "1b6beef600880b809b03f0be47472ab5635dcb34117392a7cefb521de417b030", func := "loop.example/g00975/laws.FnIrqOrder", spec := "fnIrqOrder", apart := false, narrowed := true }
def FnIrqOrderUptoSaid : Prop := fnIrqOrderUptoRow.holds Try.pinned (OpenSpec.upto fnIrqOrderSpec)

/-- 'laws.FnIrqs', WHERE WHAT IT READS IS OF BULK AT MOST 1048576: true; the input reads as it did. -/
def fnIrqsUptoRow : OpenClaim := { program := "ytglolhdccaabbaa", sum := "1b6beef600880b809b03f0be47472ab5635dcb34117392a7cefb521de417b030", func := "loop.example/g00975/laws.FnIrqs", spec := "fnIrqs", apart := false, narrowed := true }
def FnIrqsUptoSaid : Prop := fnIrqsUptoRow.holds Try.pinned (OpenSpec.upto fnIrqsSpec)

/-- 'laws.FnExactCanRun', WHERE WHAT IT READS IS OF BULK AT MOST 1048576: true; the input reads as it did. -/
def fnExactCanRunUptoRow : OpenClaim := { program := "ytglolhdccaabbaa", sum := "1b6beef600880b809b03f0be47472ab5635dcb34117392a7cefb521de417b030", func := "loop.example/g00975/laws.FnExactCanRun", spec := "fnExactCanRun", apart := false, narrowed := true }
def FnExactCanRunUptoSaid : Prop := fnExactCanRunUptoRow.holds Try.pinned (OpenSpec.upto fnExactCanRunSpec)

/-- 'laws.FnSums', WHERE WHAT IT READS IS OF BULK AT MOST 1048576: true; the input reads as it did. -/
def fnSumsUptoRow : OpenClaim := { program := "ytglolhdccaabbaa", sum := "1b6beef600880b809b03f0be47472ab5635dcb34117392a7cefb521de417b030", func := "loop.example/g00975/laws.FnSums", spec := "fnSums", apart := false, narrowed := true }
def FnSumsUptoSaid : Prop := fnSumsUptoRow.holds Try.pinned (OpenSpec.upto fnSumsSpec)

/-- 'laws.FnExactSameGuest', WHERE WHAT IT READS IS OF BULK AT MOST 1048576: true; the input reads as it did. -/
def fnExactSameGuestUptoRow : OpenClaim := { program := "ytglolhdccaabbaa", sum := "1b6beef600880b809b03f0be47472ab5635dcb34117392a7cefb521de417b030", func := "loop.example/g00975/laws.FnExactSameGuest", spec := "fnExactSameGuest", apart := false, narrowed := true }
def FnExactSameGuestUptoSaid : Prop := fnExactSameGuestUptoRow.holds Try.pinned (OpenSpec.upto fnExactSameGuestSpec)

/-- 'laws.FnExactTakesIrq', WHERE WHAT IT READS IS OF BULK AT MOST 1048576: true; the input reads as it did. -/
def fnExactTakesIrqUptoRow : OpenClaim := { program := "ytglolhdccaabbaa", sum := "1b6beef600880b809b03f0be47472ab5635dcb34117392a7cefb521de417b030", func := "loop.example/g00975/laws.FnExactTakesIrq", spec := "fnExactTakesIrq", apart := false, narrowed := true }
def FnExactTakesIrqUptoSaid : Prop := fnExactTakesIrqUptoRow.holds Try.pinned (OpenSpec.upto fnExactTakesIrqSpec)

/-- 'laws.FnExactGuestNew', WHERE WHAT IT READS IS OF BULK AT MOST 1048576: true; the input reads as it did. -/
def fnExactGuestNewUptoRow : OpenClaim := { program := "ytglolhdccaabbaa", sum := "1b6beef600880b809b03f0be47472ab5635dcb34117392a7cefb521de417b030", func := "loop.example/g00975/laws.FnExactGuestNew", spec := "fnExactGuestNew", apart := false, narrowed := true }
def FnExactGuestNewUptoSaid : Prop := fnExactGuestNewUptoRow.holds Try.pinned (OpenSpec.upto fnExactGuestNewSpec)

/-- 'laws.FnExactStopped', WHERE WHAT IT READS IS OF BULK AT MOST 1048576: true; the input reads as it did. -/
def fnExactStoppedUptoRow : OpenClaim := { program := "ytglolhdccaabbaa", sum := "1b6beef600880b809b03f0be47472ab5635dcb34117392a7cefb521de417b030", func := "loop.example/g00975/laws.FnExactStopped", spec := "fnExactStopped", apart := false, narrowed := true }
def FnExactStoppedUptoSaid : Prop := fnExactStoppedUptoRow.holds Try.pinned (OpenSpec.upto fnExactStoppedSpec)

/-- 'laws.FnExactWantOf', WHERE WHAT IT READS IS OF BULK AT MOST 1048576: true; the input reads as it did. -/
def fnExactWantOfUptoRow : OpenClaim := { program := "ytglolhdccaabbaa", sum := "1b6beef600880b809b03f0be47472ab5635dcb34117392a7cefb521de417b030", func := "loop.example/g00975/laws.FnExactWantOf", spec := "fnExactWantOf", apart := false, narrowed := true }
def FnExactWantOfUptoSaid : Prop := fnExactWantOfUptoRow.holds Try.pinned (OpenSpec.upto fnExactWantOfSpec)

/-- 'laws.FnExactSaw', WHERE WHAT IT READS IS OF BULK AT MOST 1048576: true; the input reads as it did. -/
def fnExactSawUptoRow : OpenClaim := { program := "ytglolhdccaabbaa", sum := "1b6beef600880b809b03f0be47472ab5635dcb34117392a7cefb521de417b030", func := "loop.example/g00975/laws.FnExactSaw", spec := "fnExactSaw", apart := false, narrowed := true }
def FnExactSawUptoSaid : Prop := fnExactSawUptoRow.holds Try.pinned (OpenSpec.upto fnExactSawSpec)

/-- 'laws.FnExactMoved', WHERE WHAT IT READS IS OF BULK AT MOST 1048576: true; the input reads as it did. -/
def fnExactMovedUptoRow : OpenClaim := { program := "ytglolhdccaabbaa", sum := "1b6beef600880b809b03f0be47472ab5635dcb34117392a7cefb521de417b030", func := "loop.example/g00975/laws.FnExactMoved", spec := "fnExactMoved", apart := false, narrowed := true }
def FnExactMovedUptoSaid : Prop := fnExactMovedUptoRow.holds Try.pinned (OpenSpec.upto fnExactMovedSpec)

/-- 'laws.FnExactStored', WHERE WHAT IT READS IS OF BULK AT MOST 1048576: true; the input reads as it did. -/
def fnExactStoredUptoRow : OpenClaim := { program := "ytglolhdccaabbaa", sum := "1b6beef600880b809b03f0be47472ab5635dcb34117392a7cefb521de417b030", func := "loop.example/g00975/laws.FnExactStored", spec := "fnExactStored", apart := false, narrowed := true }
def FnExactStoredUptoSaid : Prop := fnExactStoredUptoRow.holds Try.pinned (OpenSpec.upto fnExactStoredSpec)

/-- 'laws.FnExactAddress', WHERE WHAT IT READS IS OF BULK AT MOST 1048576: true; the input reads as it did. -/
def fnExactAddressUptoRow : OpenClaim := { program := "ytglolhdccaabbaa", sum := "1b6beef600880b809b03f0be47472ab5635dcb34117392a7cefb521de417b030", func := "loop.example/g00975/laws.FnExactAddress", spec := "fnExactAddress", apart := false, narrowed := true }
def FnExactAddressUptoSaid : Prop := fnExactAddressUptoRow.holds Try.pinned (OpenSpec.upto fnExactAddressSpec)

/-- 'laws.FnExactHeld', WHERE WHAT IT READS IS OF BULK AT MOST 1048576: true; the input reads as it did. -/
def fnExactHeldUptoRow : OpenClaim := { program := "ytglolhdccaabbaa", sum := "1b6beef600880b809b03f0be47472ab5635dcb34117392a7cefb521de417b030", func := "loop.example/g00975/laws.FnExactHeld", spec := "fnExactHeld", apart := false, narrowed := true }
def FnExactHeldUptoSaid : Prop := fnExactHeldUptoRow.holds Try.pinned (OpenSpec.upto fnExactHeldSpec)

/-- 'laws.FnExactGuestOk', WHERE WHAT IT READS IS OF BULK AT MOST 1048576: true; the input reads as it did. -/
def fnExactGuestOkUptoRow : OpenClaim := { program := "ytglolhdccaabbaa", sum := "1b6beef600880b809b03f0be47472ab5635dcb34117392a7cefb521de417b030", func := "loop.example/g00975/laws.FnExactGuestOk", spec := "fnExactGuestOk", apart := false, narrowed := true }
def FnExactGuestOkUptoSaid : Prop := fnExactGuestOkUptoRow.holds Try.pinned (OpenSpec.upto fnExactGuestOkSpec)

/-- 'laws.FnExactLoaded', WHERE WHAT IT READS IS OF BULK AT MOST 1048576: true; the input reads as it did. -/
def fnExactLoadedUptoRow : OpenClaim := { program := "ytglolhdccaabbaa", sum := "1b6beef600880b809b03f0be47472ab5635dcb34117392a7cefb521de417b030", func := "loop.example/g00975/laws.FnExactLoaded", spec := "fnExactLoaded", apart := false, narrowed := true }
def FnExactLoadedUptoSaid : Prop := fnExactLoadedUptoRow.holds Try.pinned (OpenSpec.upto fnExactLoadedSpec)

/-- 'laws.FnExactInterrupted', WHERE WHAT IT READS IS OF BULK AT MOST 1048576: true; the input reads as it did. -/
def fnExactInterruptedUptoRow : OpenClaim := { program := "ytglolhdccaabbaa", sum := "1b6beef600880b809b03f0be47472ab5635dcb34117392a7cefb521de417b030", func := "loop.example/g00975/laws.FnExactInterrupted", spec := "fnExactInterrupted", apart := false, narrowed := true }
def FnExactInterruptedUptoSaid : Prop := fnExactInterruptedUptoRow.holds Try.pinned (OpenSpec.upto fnExactInterruptedSpec)

/-- 'laws.FnExactPlainly', WHERE WHAT IT READS IS OF BULK AT MOST 1048576: true; the input reads as it did. -/
def fnExactPlainlyUptoRow : OpenClaim := { program := "ytglolhdccaabbaa", sum := "1b6beef600880b809b03f0be47472ab5635dcb34117392a7cefb521de417b030", func := "loop.example/g00975/laws.FnExactPlainly", spec := "fnExactPlainly", apart := false, narrowed := true }
def FnExactPlainlyUptoSaid : Prop := fnExactPlainlyUptoRow.holds Try.pinned (OpenSpec.upto fnExactPlainlySpec)

/-- 'laws.FnWants', WHERE WHAT IT READS IS OF BULK AT MOST 1048576: true; the input reads as it did. -/
def fnWantsUptoRow : OpenClaim := { program := "ytglolhdccaabbaa", sum := "1b6beef600880b809b03f0be47472ab5635dcb34117392a7cefb521de417b030", func := "loop.example/g00975/laws.FnWants", spec := "fnWants", apart := false, narrowed := true }
def FnWantsUptoSaid : Prop := fnWantsUptoRow.holds Try.pinned (OpenSpec.upto fnWantsSpec)

/-- 'laws.FnGuests', WHERE WHAT IT READS IS OF BULK AT MOST 1048576: true; the input reads as it did. -/
def fnGuestsUptoRow : OpenClaim := { program := "ytglolhdccaabbaa", sum := "1b6beef600880b809b03f0be47472ab5635dcb34117392a7cefb521de417b030", func := "loop.example/g00975/laws.FnGuests", spec := "fnGuests", apart := false, narrowed := true }
def FnGuestsUptoSaid : Prop := fnGuestsUptoRow.holds Try.pinned (OpenSpec.upto fnGuestsSpec)

end Rows
end Go.Proofs.Ytglolhdccaabbaa
