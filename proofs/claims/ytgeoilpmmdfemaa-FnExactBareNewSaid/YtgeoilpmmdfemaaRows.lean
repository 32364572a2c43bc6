/-
  No cell of these rows narrows 'for every input' (looked for: loops, veiled, ifaces, maps, wideKeys, modest, calm, conditions, laid).
  DERIVED. THE GIVEN ROWS OF THIS SEAT. 18 by the template 'for every input the law returns true; each argument reads behind the call as it read before'; 0 by the template 'total and deterministic' (their statements: YtgeoilpmmdfemaaTotals.lean).
  GIVEN WITH THE SEED: the statements are not yours to turn. If you find one false, say at which input.
  Laid BY PROGRAM, IN A SANDBOX (cutbox-rows.mjs): the forced cells as the released guide's own fill.sh prints them over the translation 4ac231430b9c1a2e… (all of the seat's roots in one cut). By AI agents, Wed Nov 11 2026. No macro, syntax, notation, axiom, sorry.
-/
import Derived.Test.YtgeoilpmmdfemaaChecked
import GoSem.Claim
import GoSem.ClaimJoined
import GoSem.ClaimMapViews
import Derived.JoinedTies
import Derived.KernelRfl
namespace Go.Proofs.Ytgeoilpmmdfemaa
/- THE CELL 'sum', in the pinned program and in every row, IS THE sha256 OF THE DUMP (.gsa) THAT YtgeoilpmmdfemaaProg.lean LOADS. Nothing in Lean hashes anything: it is a label: what it is worth is what the hold of that sum in a sandbox is worth. -/
noncomputable def Try.pinned : Pinned := { name := "ytgeoilpmmdfemaa", sum := "4ac231430b9c1a2ee629a22eb4ee503df204105e3e39a8a42378f61d835b34b5", checked := Try.checked }
namespace Rows
def none {H : Type} : Left H := { results := [], args := [] }

/-- 'laws.FnExactExitOf': WHATEVER THE INPUT: true; the input reads as it did. -/
def fnExactExitOfSpec : ChangeSpec := { name := "fnExactExitOf", fn := fun _ => fun
  | [d1, d2] => { results := [.lit (.bool true)], args := [d1, d2] }
  | _ => none }
def fnExactExitOfRow : OpenClaim := { program := "ytgeoilpmmdfemaa", sum := "4ac231430b9c1a2ee629a22eb4ee503df204105e3e39a8a42378f61d835b34b5", func := "loop.example/g00975/laws.FnExactExitOf", spec := "fnExactExitOf", apart := false }
def FnExactExitOfSaid : Prop := fnExactExitOfRow.holds Try.pinned (OpenSpec.ofChange fnExactExitOfSpec)

/-- ITS FALSE NEIGHBOUR: 'it returns false'. Refute it at one input. -/
def fnExactExitOfWrong : ChangeSpec := { name := "fnExactExitOf", fn := fun _ => fun
  | [d1, d2] => { results := [.lit (.bool false)], args := [d1, d2] }
  | _ => none }
def FnExactExitOfWrongFalsely : Prop := fnExactExitOfRow.holds Try.pinned (OpenSpec.ofChange fnExactExitOfWrong)

/-- 'laws.FnExactSameBare': WHATEVER THE INPUT: true; the input reads as it did. -/
def fnExactSameBareSpec : ChangeSpec := { name := "fnExactSameBare", fn := fun _ => fun
  | [d1, d2] => { results := [.lit (.bool true)], args := [d1, d2] }
  | _ => none }
def fnExactSameBareRow : OpenClaim := { program := "ytgeoilpmmdfemaa", sum := "4ac231430b9c1a2ee629a22eb4ee503df204105e3e39a8a42378f61d835b34b5", func := "loop.example/g00975/laws.FnExactSameBare", spec := "fnExactSameBare", unfollowed := true, recurses := true, apart := false }
def FnExactSameBareSaid : Prop := fnExactSameBareRow.holds Try.pinned (OpenSpec.ofChange fnExactSameBareSpec)

/-- ITS FALSE NEIGHBOUR: 'it returns false'. Refute it at one input. -/
def fnExactSameBareWrong : ChangeSpec := { name := "fnExactSameBare", fn := fun _ => fun
  | [d1, d2] => { results := [.lit (.bool false)], args := [d1, d2] }
  | _ => none }
def FnExactSameBareWrongFalsely : Prop := fnExactSameBareRow.holds Try.pinned (OpenSpec.ofChange fnExactSameBareWrong)

/-- 'laws.FnExactRunnable': WHATEVER THE INPUT: true; the input reads as it did. -/
def fnExactRunnableSpec : ChangeSpec := { name := "fnExactRunnable", fn := fun _ => fun
  | [d] => { results := [.lit (.bool true)], args := [d] }
  | _ => none }
def fnExactRunnableRow : OpenClaim := { program := "ytgeoilpmmdfemaa", sum := "4ac231430b9c1a2ee629a22eb4ee503df204105e3e39a8a42378f61d835b34b5", func := "loop.example/g00975/laws.FnExactRunnable", spec := "fnExactRunnable", apart := false }
def FnExactRunnableSaid : Prop := fnExactRunnableRow.holds Try.pinned (OpenSpec.ofChange fnExactRunnableSpec)

/-- ITS FALSE NEIGHBOUR: 'it returns false'. Refute it at one input. -/
def fnExactRunnableWrong : ChangeSpec := { name := "fnExactRunnable", fn := fun _ => fun
  | [d] => { results := [.lit (.bool false)], args := [d] }
  | _ => none }
def FnExactRunnableWrongFalsely : Prop := fnExactRunnableRow.holds Try.pinned (OpenSpec.ofChange fnExactRunnableWrong)

/-- 'laws.FnExactSeenOf': WHATEVER THE INPUT: true; the input reads as it did. -/
def fnExactSeenOfSpec : ChangeSpec := { name := "fnExactSeenOf", fn := fun _ => fun
  | [d1, d2] => { results := [.lit (.bool true)], args := [d1, d2] }
  | _ => none }
def fnExactSeenOfRow : OpenClaim := { program := "ytgeoilpmmdfemaa", sum := "4ac231430b9c1a2ee629a22eb4ee503df204105e3e39a8a42378f61d835b34b5", func := "loop.example/g00975/laws.FnExactSeenOf", spec := "fnExactSeenOf", apart := false }
def FnExactSeenOfSaid : Prop := fnExactSeenOfRow.holds Try.pinned (OpenSpec.ofChange fnExactSeenOfSpec)

/-- ITS FALSE NEIGHBOUR: 'it returns false'. Refute it at one input. -/
def fnExactSeenOfWrong : ChangeSpec := { name := "fnExactSeenOf", fn := fun _ => fun
  | [d1, d2] => { results := [.lit (.bool false)], args := [d1, d2] }
  | _ => none }
def FnExactSeenOfWrongFalsely : Prop := fnExactSeenOfRow.holds Try.pinned (OpenSpec.ofChange fnExactSeenOfWrong)

/-- 'laws.FnExactPostedTo': WHATEVER THE INPUT: true; the input reads as it did. -/
def fnExactPostedToSpec : ChangeSpec := { name := "fnExactPostedTo", fn := fun _ => fun
  | [d1, d2] => { results := [.lit (.bool true)], args := [d1, d2] }
  | _ => none }
def fnExactPostedToRow : OpenClaim := { program := "ytgeoilpmmdfemaa", sum := "4ac231430b9c1a2ee629a22eb4ee503df204105e3e39a8a42378f61d835b34b5", func := "loop.example/g00975/laws.FnExactPostedTo", spec := "fnExactPostedTo", apart := false }
def FnExactPostedToSaid : Prop := fnExactPostedToRow.holds Try.pinned (OpenSpec.ofChange fnExactPostedToSpec)

/-- ITS FALSE NEIGHBOUR: 'it returns false'. Refute it at one input. -/
def fnExactPostedToWrong : ChangeSpec := { name := "fnExactPostedTo", fn := fun _ => fun
  | [d1, d2] => { results := [.lit (.bool false)], args := [d1, d2] }
  | _ => none }
def FnExactPostedToWrongFalsely : Prop := fnExactPostedToRow.holds Try.pinned (OpenSpec.ofChange fnExactPostedToWrong)

/-- 'laws.FnExactGuestAt': WHATEVER THE INPUT: true; the input reads as it did. -/
def fnExactGuestAtSpec : ChangeSpec := { name := "fnExactGuestAt", fn := fun _ => fun
  | [d1, d2] => { results := [.lit (.bool true)], args := [d1, d2] }
  | _ => none }
def fnExactGuestAtRow : OpenClaim := { program := "ytgeoilpmmdfemaa", sum := "4ac231430b9c1a2ee629a22eb4ee503df204105e3e39a8a42378f61d835b34b5", func := "loop.example/g00975/laws.FnExactGuestAt", spec := "fnExactGuestAt", apart := false }
def FnExactGuestAtSaid : Prop := fnExactGuestAtRow.holds Try.pinned (OpenSpec.ofChange fnExactGuestAtSpec)

/-- ITS FALSE NEIGHBOUR: 'it returns false'. Refute it at one input. -/
def fnExactGuestAtWrong : ChangeSpec := { name := "fnExactGuestAt", fn := fun _ => fun
  | [d1, d2] => { results := [.lit (.bool false)], args := [d1, d2] }
  | _ => none }
def FnExactGuestAtWrongFalsely : Prop := fnExactGuestAtRow.holds Try.pinned (OpenSpec.ofChange fnExactGuestAtWrong)

/-- 'laws.FnExactBareOk': WHATEVER THE INPUT: true; the input reads as it did. -/
def fnExactBareOkSpec : ChangeSpec := { name := "fnExactBareOk", fn := fun _ => fun
  | [d] => { results := [.lit (.bool true)], args := [d] }
  | _ => none }
def fnExactBareOkRow : OpenClaim := { program := "ytgeoilpmmdfemaa", sum := "4ac231430b9c1a2ee629a22eb4ee503df204105e3e39a8a42378f61d835b34b5", func := "loop.example/g00975/laws.FnExactBareOk", spec := "fnExactBareOk", apart := false }
def FnExactBareOkSaid : Prop := fnExactBareOkRow.holds Try.pinned (OpenSpec.ofChange fnExactBareOkSpec)

/-- ITS FALSE NEIGHBOUR: 'it returns false'. Refute it at one input. -/
def fnExactBareOkWrong : ChangeSpec := { name := "fnExactBareOk", fn := fun _ => fun
  | [d] => { results := [.lit (.bool false)], args := [d] }
  | _ => none }
def FnExactBareOkWrongFalsely : Prop := fnExactBareOkRow.holds Try.pinned (OpenSpec.ofChange fnExactBareOkWrong)

/-- 'laws.FnExactBareNew': WHATEVER THE INPUT: true; the input reads as it did. -/
def fnExactBareNewSpec : ChangeSpec := { name := "fnExactBareNew", fn := fun _ => fun
  | [d] => { results := [.lit (.bool true)], args := [d] }
  | _ => none }
def fnExactBareNewRow : OpenClaim := { program := "ytgeoilpmmdfemaa", sum := "4ac231430b9c1a2ee629a22eb4ee503df204105e3e39a8a42378f61d835b34b5", func := "loop.example/g00975/laws.FnExactBareNew", spec := "fnExactBareNew", apart := false }
def FnExactBareNewSaid : Prop := fnExactBareNewRow.holds Try.pinned (OpenSpec.ofChange fnExactBareNewSpec)

/-- ITS FALSE NEIGHBOUR: 'it returns false'. Refute it at one input. -/
def fnExactBareNewWrong : ChangeSpec := { name := "fnExactBareNew", fn := fun _ => fun
  | [d] => { results := [.lit (.bool false)], args := [d] }
  | _ => none }
def FnExactBareNewWrongFalsely : Prop := fnExactBareNewRow.holds Try.pinned (OpenSpec.ofChange fnExactBareNewWrong)

/-- 'laws.FnExactPutOut': WHATEVER THE INPUT: true; the input reads as it did. -/
def fnExactPutOutSpec : ChangeSpec := { name := "fnExactPutOut", fn := fun _ => fun
  | [d1, d2] => { results := [.lit (.bool true)], args := [d1, d2] }
  | _ => none }
def fnExactPutOutRow : OpenClaim := { program := "ytgeoilpmmdfemaa", sum := "4ac231430b9c1a2ee629a22eb4ee503df204105e3e39a8a42378f61d835b34b5", func := "loop.example/g00975/laws.FnExactPutOut", spec := "fnExactPutOut", apart := false }
def FnExactPutOutSaid : Prop := fnExactPutOutRow.holds Try.pinned (OpenSpec.ofChange fnExactPutOutSpec)

/-- ITS FALSE NEIGHBOUR: 'it returns false'. Refute it at one input. -/
def fnExactPutOutWrong : ChangeSpec := { name := "fnExactPutOut", fn := fun _ => fun
  | [d1, d2] => { results := [.lit (.bool false)], args := [d1, d2] }
  | _ => none }
def FnExactPutOutWrongFalsely : Prop := fnExactPutOutRow.holds Try.pinned (OpenSpec.ofChange fnExactPutOutWrong)

/-- 'laws.FnExactWithGuest': WHATEVER THE INPUT: true; the input reads as it did. -/
def fnExactWithGuestSpec : ChangeSpec := { name := "fnExactWithGuest", fn := fun _ => fun
  | [d1, d2, d3] => { results := [.lit (.bool true)], args := [d1, d2, d3] }
  | _ => none }
def fnExactWithGuestRow : OpenClaim := { program := "ytgeoilpmmdfemaa", sum := "4ac231430b9c1a2ee629a22eb4ee503df204105e3e39a8a42378f61d835b34b5", func := "loop.example/g00975/laws.FnExactWithGuest", spec := "fnExactWithGuest", apart := false }
def FnExactWithGuestSaid : Prop := fnExactWithGuestRow.holds Try.pinned (OpenSpec.ofChange fnExactWithGuestSpec)

/-- ITS FALSE NEIGHBOUR: 'it returns false'. Refute it at one input. -/
def fnExactWithGuestWrong : ChangeSpec := { name := "fnExactWithGuest", fn := fun _ => fun
  | [d1, d2, d3] => { results := [.lit (.bool false)], args := [d1, d2, d3] }
  | _ => none }
def FnExactWithGuestWrongFalsely : Prop := fnExactWithGuestRow.holds Try.pinned (OpenSpec.ofChange fnExactWithGuestWrong)

/-- 'laws.FnExactBareRead': WHATEVER THE INPUT: true; the input reads as it did. -/
def fnExactBareReadSpec : ChangeSpec := { name := "fnExactBareRead", fn := fun _ => fun
  | [d1, d2, d3] => { results := [.lit (.bool true)], args := [d1, d2, d3] }
  | _ => none }
def fnExactBareReadRow : OpenClaim := { program := "ytgeoilpmmdfemaa", sum := "4ac231430b9c1a2ee629a22eb4ee503df204105e3e39a8a42378f61d835b34b5", func := "loop.example/g00975/laws.FnExactBareRead", spec := "fnExactBareRead", apart := false }
def FnExactBareReadSaid : Prop := fnExactBareReadRow.holds Try.pinned (OpenSpec.ofChange fnExactBareReadSpec)

/-- ITS FALSE NEIGHBOUR: 'it returns false'. Refute it at one input. -/
def fnExactBareReadWrong : ChangeSpec := { name := "fnExactBareRead", fn := fun _ => fun
  | [d1, d2, d3] => { results := [.lit (.bool false)], args := [d1, d2, d3] }
  | _ => none }
def FnExactBareReadWrongFalsely : Prop := fnExactBareReadRow.holds Try.pinned (OpenSpec.ofChange fnExactBareReadWrong)

/-- 'laws.FnExactBarePoke': WHATEVER THE INPUT: true; the input reads as it did. -/
def fnExactBarePokeSpec : ChangeSpec := { name := "fnExactBarePoke", fn := fun _ => fun
  | [d1, d2, d3, d4] => { results := [.lit (.bool true)], args := [d1, d2, d3, d4] }
  | _ => none }
def fnExactBarePokeRow : OpenClaim := { program := "ytgeoilpmmdfemaa", sum := "4ac231430b9c1a2ee629a22eb4ee503df204105e3e39a8a42378f61d835b34b5", func := "loop.example/g00975/laws.FnExactBarePoke", spec := "fnExactBarePoke", apart := false }
def FnExactBarePokeSaid : Prop := fnExactBarePokeRow.holds Try.pinned (OpenSpec.ofChange fnExactBarePokeSpec)

/-- ITS FALSE NEIGHBOUR: 'it returns false'. Refute it at one input. -/
def fnExactBarePokeWrong : ChangeSpec := { name := "fnExactBarePoke", fn := fun _ => fun
  | [d1, d2, d3, d4] => { results := [.lit (.bool false)], args := [d1, d2, d3, d4] }
  | _ => none }
def FnExactBarePokeWrongFalsely : Prop := fnExactBarePokeRow.holds Try.pinned (OpenSpec.ofChange fnExactBarePokeWrong)

/-- 'laws.FnExactBareCtl': WHATEVER THE INPUT: true; the input reads as it did. -/
def fnExactBareCtlSpec : ChangeSpec := { name := "fnExactBareCtl", fn := fun _ => fun
  | [d1, d2, d3] => { results := [.lit (.bool true)], args := [d1, d2, d3] }
  | _ => none }
def fnExactBareCtlRow : OpenClaim := { program := "ytgeoilpmmdfemaa", sum := "4ac231430b9c1a2ee629a22eb4ee503df204105e3e39a8a42378f61d835b34b5", func := "loop.example/g00975/laws.FnExactBareCtl", spec := "fnExactBareCtl", unfollowed := true, recurses := true, apart := false }
def FnExactBareCtlSaid : Prop := fnExactBareCtlRow.holds Try.pinned (OpenSpec.ofChange fnExactBareCtlSpec)

/-- ITS FALSE NEIGHBOUR: 'it returns false'. Refute it at one input. -/
def fnExactBareCtlWrong : ChangeSpec := { name := "fnExactBareCtl", fn := fun _ => fun
  | [d1, d2, d3] => { results := [.lit (.bool false)], args := [d1, d2, d3] }
  | _ => none }
def FnExactBareCtlWrongFalsely : Prop := fnExactBareCtlRow.holds Try.pinned (OpenSpec.ofChange fnExactBareCtlWrong)

/-- 'laws.FnExactBareSet': WHATEVER THE INPUT: true; the input reads as it did. -/
def fnExactBareSetSpec : ChangeSpec := { name := "fnExactBareSet", fn := fun _ => fun
  | [d1, d2, d3, d4] => { results := [.lit (.bool true)], args := [d1, d2, d3, d4] }
  | _ => none }
def fnExactBareSetRow : OpenClaim := { program := "ytgeoilpmmdfemaa", sum := "4ac231430b9c1a2ee629a22eb4ee503df204105e3e39a8a42378f61d835b34b5", func := "loop.example/g00975/laws.FnExactBareSet", spec := "fnExactBareSet", unfollowed := true, recurses := true, apart := false }
def FnExactBareSetSaid : Prop := fnExactBareSetRow.holds Try.pinned (OpenSpec.ofChange fnExactBareSetSpec)

/-- ITS FALSE NEIGHBOUR: 'it returns false'. Refute it at one input. -/
def fnExactBareSetWrong : ChangeSpec := { name := "fnExactBareSet", fn := fun _ => fun
  | [d1, d2, d3, d4] => { results := [.lit (.bool false)], args := [d1, d2, d3, d4] }
  | _ => none }
def FnExactBareSetWrongFalsely : Prop := fnExactBareSetRow.holds Try.pinned (OpenSpec.ofChange fnExactBareSetWrong)

/-- 'laws.FnExactBareInject': WHATEVER THE INPUT: true; the input reads as it did. -/
def fnExactBareInjectSpec : ChangeSpec := { name := "fnExactBareInject", fn := fun _ => fun
  | [d1, d2, d3] => { results := [.lit (.bool true)], args := [d1, d2, d3] }
  | _ => none }
def fnExactBareInjectRow : OpenClaim := { program := "ytgeoilpmmdfemaa", sum := "4ac231430b9c1a2ee629a22eb4ee503df204105e3e39a8a42378f61d835b34b5", func := "loop.example/g00975/laws.FnExactBareInject", spec := "fnExactBareInject", unfollowed := true, recurses := true, apart := false }
def FnExactBareInjectSaid : Prop := fnExactBareInjectRow.holds Try.pinned (OpenSpec.ofChange fnExactBareInjectSpec)

/-- ITS FALSE NEIGHBOUR: 'it returns false'. Refute it at one input. -/
def fnExactBareInjectWrong : ChangeSpec := { name := "fnExactBareInject", fn := fun _ => fun
  | [d1, d2, d3] => { results := [.lit (.bool false)], args := [d1, d2, d3] }
  | _ => none }
def FnExactBareInjectWrongFalsely : Prop := fnExactBareInjectRow.holds Try.pinned (OpenSpec.ofChange fnExactBareInjectWrong)

/-- 'laws.FnExactBareFlush': WHATEVER THE INPUT: true; the input reads as it did. -/
def fnExactBareFlushSpec : ChangeSpec := { name := "fnExactBareFlush", fn := fun _ => fun
  | [d1, d2, d3] => { results := [.lit (.bool true)], args := [d1, d2, d3] }
  | _ => none }
def fnExactBareFlushRow : OpenClaim := { program := "ytgeoilpmmdfemaa", sum := "4ac231430b9c1a2ee629a22eb4ee503df204105e3e39a8a42378f61d835b34b5", func := "loop.example/g00975/laws.FnExactBareFlush", spec := "fnExactBareFlush", unfollowed := true, recurses := true, apart := false }
def FnExactBareFlushSaid : Prop := fnExactBareFlushRow.holds Try.pinned (OpenSpec.ofChange fnExactBareFlushSpec)

/-- ITS FALSE NEIGHBOUR: 'it returns false'. Refute it at one input. -/
def fnExactBareFlushWrong : ChangeSpec := { name := "fnExactBareFlush", fn := fun _ => fun
  | [d1, d2, d3] => { results := [.lit (.bool false)], args := [d1, d2, d3] }
  | _ => none }
def FnExactBareFlushWrongFalsely : Prop := fnExactBareFlushRow.holds Try.pinned (OpenSpec.ofChange fnExactBareFlushWrong)

/-- 'laws.FnExactBareAnswer': WHATEVER THE INPUT: true; the input reads as it did. -/
def fnExactBareAnswerSpec : ChangeSpec := { name := "fnExactBareAnswer", fn := fun _ => fun
  | [d1, d2, d3] => { results := [.lit (.bool true)], args := [d1, d2, d3] }
  | _ => none }
def fnExactBareAnswerRow : OpenClaim := { program := "ytgeoilpmmdfemaa", sum := "4ac231430b9c1a2ee629a22eb4ee503df204105e3e39a8a42378f61d835b34b5", func := "loop.example/g00975/laws.FnExactBareAnswer", spec := "fnExactBareAnswer", unfollowed := true, recurses := true, apart := false }
def FnExactBareAnswerSaid : Prop := fnExactBareAnswerRow.holds Try.pinned (OpenSpec.ofChange fnExactBareAnswerSpec)

/-- ITS FALSE NEIGHBOUR: 'it returns false'. Refute it at one input. -/
def fnExactBareAnswerWrong : ChangeSpec := { name := "fnExactBareAnswer", fn := fun _ => fun
  | [d1, d2, d3] => { results := [.lit (.bool false)], args := [d1, d2, d3] }
  | _ => none }
def FnExactBareAnswerWrongFalsely : Prop := fnExactBareAnswerRow.holds Try.pinned (OpenSpec.ofChange fnExactBareAnswerWrong)

/-- 'laws.FnExactBareResume': WHATEVER THE INPUT: true; the input reads as it did. -/
def fnExactBareResumeSpec : ChangeSpec := { name := "fnExactBareResume", fn := fun _ => fun
  | [d1, d2] => { results := [.lit (.bool true)], args := [d1, d2] }
  | _ => none }
def fnExactBareResumeRow : OpenClaim := { program := "ytgeoilpmmdfemaa", sum := "4ac231430b9c1a2ee629a22eb4ee503df204105e3e39a8a42378f61d835b34b5", func := "loop.example/g00975/laws.FnExactBareResume", spec := "fnExactBareResume", unfollowed := true, recurses := true, apart := false }
def FnExactBareResumeSaid : Prop := fnExactBareResumeRow.holds Try.pinned (OpenSpec.ofChange fnExactBareResumeSpec)

/-- ITS FALSE NEIGHBOUR: 'it returns false'. Refute it at one input. -/
def fnExactBareResumeWrong : ChangeSpec := { name := "fnExactBareResume", fn := fun _ => fun
  | [d1, d2] => { results := [.lit (.bool false)], args := [d1, d2] }
  | _ => none }
def FnExactBareResumeWrongFalsely : Prop := fnExactBareResumeRow.holds Try.pinned (OpenSpec.ofChange fnExactBareResumeWrong)

/- THE SECOND FORM. 'bulk': how many values and letters a reading holds, each counted each time it is reached (what is shared counts as often as it is met; a slice's spare places count too). A statement '..UptoSaid' is the law's where the arguments, and the package variables that the reading takes, are together of bulk at most 1048576: NARROWER than '..Said'. Prove '..Said' where nothing that the law and all that it calls make is longer than what came in: it says more and counts as full. Else prove '..UptoSaid'. A law counts once. -/
mutual
def uptoBulk {H : Type} : DataW H → Nat
  | .lit (.string bytes) => bytes.length + 1
  | .lit _ => 1
  | .nil => 1
  | .ptr d => uptoBulk d + 1
  | .slice elems spare => uptoBulkAll elems + uptoBulkAll spare + 1
  | .agg parts => uptoBulkAll parts + 1
  | .iface _ d => uptoBulk d + 1
  | .map entries => uptoBulkEntries entries + 1
  | .held _ => 1
def uptoBulkAll {H : Type} : List (DataW H) → Nat
  | [] => 0
  | d :: r => uptoBulk d + uptoBulkAll r
def uptoBulkEntries {H : Type} : List (Lit × DataW H) → Nat
  | [] => 0
  | x :: r => uptoBulkEntry x + uptoBulkEntries r
def uptoBulkEntry {H : Type} : Lit × DataW H → Nat
  | (.string bytes, d) => bytes.length + uptoBulk d + 1
  | (_, d) => uptoBulk d + 1
 end
def uptoSmall : (H : Type) → List (DataW H) → Bool := fun _ ds => decide (uptoBulkAll ds ≤ 1048576)
def OpenSpec.upto (s : _root_.Go.ChangeSpec) : _root_.Go.OpenSpec := { _root_.Go.OpenSpec.ofChange s with cond := some uptoSmall }

/-- 'laws.FnExactExitOf', WHERE WHAT IT READS IS OF BULK AT MOST 1048576: true; the input reads as it did. -/
def fnExactExitOfUptoRow : OpenClaim := { program := "ytgeoilpmmdfemaa", sum := "4ac231430b9c1a2ee629a22eb4ee503df204105e3e39a8a42378f61d835b34b5", func := "loop.example/g00975/laws.FnExactExitOf", spec := "fnExactExitOf", apart := false, narrowed := true }
def FnExactExitOfUptoSaid : Prop := fnExactExitOfUptoRow.holds Try.pinned (OpenSpec.upto fnExactExitOfSpec)

/-- 'laws.FnExactSameBare', WHERE WHAT IT READS IS OF BULK AT MOST 1048576: true; the input reads as it did. -/
def fnExactSameBareUptoRow : OpenClaim := { program := "ytgeoilpmmdfemaa", sum := "4ac231430b9c1a2ee629a22eb4ee503df204105e3e39a8a42378f61d835b34b5", func := "loop.example/g00975/laws.FnExactSameBare", spec := "fnExactSameBare", unfollowed := true, recurses := true, apart := false, narrowed := true }
def FnExactSameBareUptoSaid : Prop := fnExactSameBareUptoRow.holds Try.pinned (OpenSpec.upto fnExactSameBareSpec)

/-- 'laws.FnExactRunnable', WHERE WHAT IT READS IS OF BULK AT MOST 1048576: true; the input reads as it did. -/
def fnExactRunnableUptoRow : OpenClaim := { program := "ytgeoilpmmdfemaa", sum := "4ac231430b9c1a2ee629a22eb4ee503df204105e3e39a8a42378f61d835b34b5", func := "loop.example/g00975/laws.FnExactRunnable", spec := "fnExactRunnable", apart := false, narrowed := true }
def FnExactRunnableUptoSaid : Prop := fnExactRunnableUptoRow.holds Try.pinned (OpenSpec.upto fnExactRunnableSpec)

/-- 'laws.FnExactSeenOf', WHERE WHAT IT READS IS OF BULK AT MOST 1048576: true; the input reads as it did. -/
def fnExactSeenOfUptoRow : OpenClaim := { program := "ytgeoilpmmdfemaa", sum := "4ac231430b9c1a2ee629a22eb4ee503df204105e3e39a8a42378f61d835b34b5", func := "loop.example/g00975/laws.FnExactSeenOf", spec := "fnExactSeenOf", apart := false, narrowed := true }
def FnExactSeenOfUptoSaid : Prop := fnExactSeenOfUptoRow.holds Try.pinned (OpenSpec.upto fnExactSeenOfSpec)

/-- 'laws.FnExactPostedTo', WHERE WHAT IT READS IS OF BULK AT MOST 1048576: true; the input reads as it did. -/
def fnExactPostedToUptoRow : OpenClaim := { program := "ytgeoilpmmdfemaa", sum := "4ac231430b9c1a2ee629a22eb4ee503df204105e3e39a8a42378f61d835b34b5", func := "loop.example/g00975/laws.FnExactPostedTo", spec := "fnExactPostedTo", apart := false, narrowed := true }
def FnExactPostedToUptoSaid : Prop := fnExactPostedToUptoRow.holds Try.pinned (OpenSpec.upto fnExactPostedToSpec)

/-- 'laws.FnExactGuestAt', WHERE WHAT IT READS IS OF BULK AT MOST 1048576: true; the input reads as it did. -/
def fnExactGuestAtUptoRow : OpenClaim := { program := "ytgeoilpmmdfemaa", sum := "4ac231430b9c1a2ee629a22eb4ee503df204105e3e39a8a42378f61d835b34b5", func := "loop.example/g00975/laws.FnExactGuestAt", spec := "fnExactGuestAt", apart := false, narrowed := true }
def FnExactGuestAtUptoSaid : Prop := fnExactGuestAtUptoRow.holds Try.pinned (OpenSpec.upto fnExactGuestAtSpec)

/-- 'laws.FnExactBareOk', WHERE WHAT IT READS IS OF BULK AT MOST 1048576: true; the input reads as it did. -/
def fnExactBareOkUptoRow : OpenClaim := { program := "ytgeoilpmmdfemaa", sum := "4ac231430b9c1a2ee629a22eb4ee503df204105e3e39a8a42378f61d835b34b5", func := "loop.example/g00975/laws.FnExactBareOk", spec := "fnExactBareOk", apart := false, narrowed := true }
def FnExactBareOkUptoSaid : Prop := fnExactBareOkUptoRow.holds Try.pinned (OpenSpec.upto fnExactBareOkSpec)

/-- 'laws.FnExactBareNew', WHERE WHAT IT READS IS OF BULK AT MOST 1048576: true; the input reads as it did. -/
def fnExactBareNewUptoRow : OpenClaim := { program := "ytgeoilpmmdfemaa", sum := "4ac231430b9c1a2ee629a22eb4ee503df204105e3e39a8a42378f61d835b34b5", func := "loop.example/g00975/laws.FnExactBareNew", spec := "fnExactBareNew", apart := false, narrowed := true }
def FnExactBareNewUptoSaid : Prop := fnExactBareNewUptoRow.holds Try.pinned (OpenSpec.upto fnExactBareNewSpec)

/-- 'laws.FnExactPutOut', WHERE WHAT IT READS IS OF BULK AT MOST 1048576: true; the input reads as it did. -/
def fnExactPutOutUptoRow : OpenClaim := { program := "ytgeoilpmmdfemaa", sum := "4ac231430b9c1a2ee629a22eb4ee503df204105e3e39a8a42378f61d835b34b5", func := "loop.example/g00975/laws.FnExactPutOut", spec := "fnExactPutOut", apart := false, narrowed := true }
def FnExactPutOutUptoSaid : Prop := fnExactPutOutUptoRow.holds Try.pinned (OpenSpec.upto fnExactPutOutSpec)

/-- 'laws.FnExactWithGuest', WHERE WHAT IT READS IS OF BULK AT MOST 1048576: true; the input reads as it did. -/
def fnExactWithGuestUptoRow : OpenClaim := { program := "ytgeoilpmmdfemaa", sum := "4ac231430b9c1a2ee629a22eb4ee503df204105e3e39a8a42378f61d835b34b5", func := "loop.example/g00975/laws.FnExactWithGuest", spec := "fnExactWithGuest", apart := false, narrowed := true }
def FnExactWithGuestUptoSaid : Prop := fnExactWithGuestUptoRow.holds Try.pinned (OpenSpec.upto fnExactWithGuestSpec)

/-- 'laws.FnExactBareRead', WHERE WHAT IT READS IS OF BULK AT MOST 1048576: true; the input reads as it did. -/
def fnExactBareReadUptoRow : OpenClaim := { program := "ytgeoilpmmdfemaa", sum := "4ac231430b9c1a2ee629a22eb4ee503df204105e3e39a8a42378f61d835b34b5", func := "loop.example/g00975/laws.FnExactBareRead", spec := "fnExactBareRead", apart := false, narrowed := true }
def FnExactBareReadUptoSaid : Prop := fnExactBareReadUptoRow.holds Try.pinned (OpenSpec.upto fnExactBareReadSpec)

/-- 'laws.FnExactBarePoke', WHERE WHAT IT READS IS OF BULK AT MOST 1048576: true; the input reads as it did. -/
def fnExactBarePokeUptoRow : OpenClaim := { program := "ytgeoilpmmdfemaa", sum := "4ac231430b9c1a2ee629a22eb4ee503df204105e3e39a8a42378f61d835b34b5", func := "loop.example/g00975/laws.FnExactBarePoke", spec := "fnExactBarePoke", apart := false, narrowed := true }
def FnExactBarePokeUptoSaid : Prop := fnExactBarePokeUptoRow.holds Try.pinned (OpenSpec.upto fnExactBarePokeSpec)

/-- 'laws.FnExactBareCtl', WHERE WHAT IT READS IS OF BULK AT MOST 1048576: true; the input reads as it did. -/
def fnExactBareCtlUptoRow : OpenClaim := { program := "ytgeoilpmmdfemaa", sum := "4ac231430b9c1a2ee629a22eb4ee503df204105e3e39a8a42378f61d835b34b5", func := "loop.example/g00975/laws.FnExactBareCtl", spec := "fnExactBareCtl", unfollowed := true, recurses := true, apart := false, narrowed := true }
def FnExactBareCtlUptoSaid : Prop := fnExactBareCtlUptoRow.holds Try.pinned (OpenSpec.upto fnExactBareCtlSpec)

/-- 'laws.FnExactBareSet', WHERE WHAT IT READS IS OF BULK AT MOST 1048576: true; the input reads as it did. -/
def fnExactBareSetUptoRow : OpenClaim := { program := "ytgeoilpmmdfemaa", sum := "4ac231430b9c1a2ee629a22eb4ee503df204105e3e39a8a42378f61d835b34b5", func := "loop.example/g00975/laws.FnExactBareSet", spec := "fnExactBareSet", unfollowed := true, recurses := true, apart := false, narrowed := true }
def FnExactBareSetUptoSaid : Prop := fnExactBareSetUptoRow.holds Try.pinned (OpenSpec.upto fnExactBareSetSpec)

/-- 'laws.FnExactBareInject', WHERE WHAT IT READS IS OF BULK AT MOST 1048576: true; the input reads as it did. -/
def fnExactBareInjectUptoRow : OpenClaim := { program := "ytgeoilpmmdfemaa", sum := "4ac231430b9c1a2ee629a22eb4ee503df204105e3e39a8a42378f61d835b34b5", func := "loop.example/g00975/laws.FnExactBareInject", spec := "fnExactBareInject", unfollowed := true, recurses := true, apart := false, narrowed := true }
def FnExactBareInjectUptoSaid : Prop := fnExactBareInjectUptoRow.holds Try.pinned (OpenSpec.upto fnExactBareInjectSpec)

/-- 'laws.FnExactBareFlush', WHERE WHAT IT READS IS OF BULK AT MOST 1048576: true; the input reads as it did. -/
def fnExactBareFlushUptoRow : OpenClaim := { program := "ytgeoilpmmdfemaa", sum := "4ac231430b9c1a2ee629a22eb4ee503df204105e3e39a8a42378f61d835b34b5", func := "loop.example/g00975/laws.FnExactBareFlush", spec := "fnExactBareFlush", unfollowed := true, recurses := true, apart := false, narrowed := true }
def FnExactBareFlushUptoSaid : Prop := fnExactBareFlushUptoRow.holds Try.pinned (OpenSpec.upto fnExactBareFlushSpec)

/-- 'laws.FnExactBareAnswer', WHERE WHAT IT READS IS OF BULK AT MOST 1048576: true; the input reads as it did. -/
def fnExactBareAnswerUptoRow : OpenClaim := { program := "ytgeoilpmmdfemaa", sum := "4ac231430b9c1a2ee629a22eb4ee503df204105e3e39a8a42378f61d835b34b5", func := "loop.example/g00975/laws.FnExactBareAnswer", spec := "fnExactBareAnswer", unfollowed := true, recurses := true, apart := false, narrowed := true }
def FnExactBareAnswerUptoSaid : Prop := fnExactBareAnswerUptoRow.holds Try.pinned (OpenSpec.upto fnExactBareAnswerSpec)

/-- 'laws.FnExactBareResume', WHERE WHAT IT READS IS OF BULK AT MOST 1048576: true; the input reads as it did. -/
def fnExactBareResumeUptoRow : OpenClaim := { program := "ytgeoilpmmdfemaa", sum := "4ac231430b9c1a2ee629a22eb4ee503df204105e3e39a8a42378f61d835b34b5", func := "loop.example/g00975/laws.FnExactBareResume", spec := "fnExactBareResume", unfollowed := true, recurses := true, apart := false, narrowed := true }
def FnExactBareResumeUptoSaid : Prop := fnExactBareResumeUptoRow.holds Try.pinned (OpenSpec.upto fnExactBareResumeSpec)

end Rows
end Go.Proofs.Ytgeoilpmmdfemaa
