/- Further arguments of a law, as memory holds them: control words, slots, slices. No condition. -/
import Derived.Test.YthpoieoaaikpmaaGreatOpen
import Derived.Test.YthpoieoaaikpmaaGreatBh
namespace Go.Proofs.YthpoieoaaikpmaaGreat
open Go.ChangeShapes Go.WideShapes Go.RowKit Go.Deep
section
variable {H : Type} {enc : TypeId × Value → H} {W : World} {base : Nat} {r : Reach} {v : Value} {d : DataW H} {p : List MemPlace}
set_option maxRecDepth 100000 in
theorem open_ctl (hv : Value.okWide Tryz.prog W r base 87 v) (h : DataW.Trod enc Tryz.prog W 0 (fun _ => true) true 87 v d p) : ∃ a : Ctl, v = a.val := by
  have hs := okWide_struct Tryz.underlying87 hv
  obtain ⟨cs, hc, _⟩ := hs
  subst hc
  obtain ⟨g, hg⟩ := ctl_of (tr_of h)
  obtain ⟨l⟩ := cs
  have hg' : l = [.int .i64 g.traps, .int .i64 g.post, .bool g.opn] := hg
  subst hg'
  exact ⟨g, rfl⟩
set_option maxRecDepth 100000 in
theorem open_slot (hv : Value.okWide Tryz.prog W r base 131 v) (h : DataW.Trod enc Tryz.prog W 0 (fun _ => true) true 131 v d p) : ∃ a : Slot, v = a.val := by
  have hs := okWide_struct Tryz.underlying131 hv
  obtain ⟨cs, hc, _⟩ := hs
  subst hc
  obtain ⟨g, hg⟩ := slot_of (tr_of h)
  obtain ⟨l⟩ := cs
  have hg' : l = [.int .i64 g.page, .int .i64 g.rights] := hg
  subst hg'
  exact ⟨g, rfl⟩
end
end Go.Proofs.YthpoieoaaikpmaaGreat
