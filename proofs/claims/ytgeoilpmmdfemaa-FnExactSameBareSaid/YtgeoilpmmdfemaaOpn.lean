/- Further arguments of a law, as memory holds them: control words, slots, slices. No condition. -/
import Derived.Test.YtgeoilpmmdfemaaOpen
import Derived.Test.YtgeoilpmmdfemaaBh
namespace Go.Proofs.Ytgeoilpmmdfemaa
open Go.ChangeShapes Go.WideShapes Go.RowKit Go.Deep
section
variable {H : Type} {enc : TypeId × Value → H} {W : World} {base : Nat} {r : Reach} {v : Value} {d : DataW H} {p : List MemPlace}
set_option maxRecDepth 100000 in
theorem open_ctl (hv : Value.okWide Try.prog W r base 67 v) (h : DataW.Trod enc Try.prog W 0 (fun _ => true) true 67 v d p) : ∃ a : Ctl, v = a.val := by
  have hs := okWide_struct Try.underlying67 hv
  obtain ⟨cs, hc, _⟩ := hs
  subst hc
  obtain ⟨g, hg⟩ := ctl_of (tr_of h)
  obtain ⟨l⟩ := cs
  have hg' : l = [.int .i64 g.traps, .int .i64 g.post, .bool g.opn] := hg
  subst hg'
  exact ⟨g, rfl⟩
set_option maxRecDepth 100000 in
theorem open_slot (hv : Value.okWide Try.prog W r base 85 v) (h : DataW.Trod enc Try.prog W 0 (fun _ => true) true 85 v d p) : ∃ a : Slot, v = a.val := by
  have hs := okWide_struct Try.underlying85 hv
  obtain ⟨cs, hc, _⟩ := hs
  subst hc
  obtain ⟨g, hg⟩ := slot_of (tr_of h)
  obtain ⟨l⟩ := cs
  have hg' : l = [.int .i64 g.page, .int .i64 g.rights] := hg
  subst hg'
  exact ⟨g, rfl⟩
end
end Go.Proofs.Ytgeoilpmmdfemaa
