/- Slices of bools: cells, comparisons, marks. No condition but that the arguments lie in memory. -/
import Derived.Test.YtaafnenmdombiaaGreatBza
import Derived.Test.YtaafnenmdombiaaGreatGd
import Derived.Test.YtaafnenmdombiaaGreatDl
import Derived.Test.YtaafnenmdombiaaGreatStj
namespace Go.Proofs.YtaafnenmdombiaaGreat
open Go.RowKit
attribute [local go_sem ↓] Go.wp_at_zero Go.wp_at_succ
section
variable {ops : Array Oper} {S : World → Prop} {o : Oper} {a : Act} {α : Type} {enc : α → List Value} {sz e : Nat} {P : Program}
end
abbrev bcel (b : Bool) : List Value := [.bool b]
theorem bool_len (b : Bool) : (bcel b).length = 1 := rfl
theorem bool_one (b : Bool) : ∀ u ∈ bcel b, u.oneCell' = true := by
  intro u hu
  simp only [List.mem_cons, List.not_mem_nil, or_false] at hu
  subst hu; rfl
theorem info_boolT : (Tryz.prog.info? 4).map (fun i => (i.zero, i.size, i.bytes)) = some (some (.bool false), 1, 1) := by kernel_rfl
instance eiBools : EI Tryz.prog 76 bcel 1 1 4 := ⟨⟨Tryz.underlying76, by obtain ⟨i, h1, h2, h3, h4⟩ := info_parts info_boolT; exact ⟨i, _, h1, h2, h3, h4, rfl⟩, by decide, bool_len, bool_one⟩⟩
abbrev En.bools (s : Sl Bool) : En := En.sl bcel 1 4 s
end Go.Proofs.YtaafnenmdombiaaGreat

/- Contracts of BareSteps, of the program and of the reference. No condition but that the arguments lie in memory. -/
namespace Go.Proofs.YtaafnenmdombiaaGreat
open Go.RowKit
attribute [local go_sem ↓] Go.wp_at_zero Go.wp_at_succ
end Go.Proofs.YtaafnenmdombiaaGreat
