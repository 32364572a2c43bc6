/- The law FnAnswered holds for all arguments. No condition. -/
import Derived.Test.YtaafnenmdombiaaGreatFrame
import Derived.Test.YtaafnenmdombiaaGreatOpen
import Derived.Test.YtaafnenmdombiaaGreatFa
namespace Go.Proofs.YtaafnenmdombiaaGreat
open Go.ChangeShapes Go.WideShapes Go.ChangeAt Go.RowKit Go.Deep
section
variable {H : Type} {enc : TypeId × Value → H} {W : World} {base : Nat} {r : Reach} {v : Value} {d : DataW H} {p : List MemPlace}
set_option maxRecDepth 100000 in
theorem open_bytes (hv : Value.okWide Tryz.prog W r base 22 v) (h : DataW.Trod enc Tryz.prog W 0 (fun _ => true) true 22 v d p) : ∃ a : Sl Int, v = .slice a.A a.xs.length a.c ∧ (Rd u8cell 1 W a ∧ a.xs.length ≤ maxLen) := by
  obtain ⟨A, n, c, rfl⟩ := okWide_slice Tryz.underlying22 hv
  obtain ⟨s, hs, hr, hl⟩ := open_sl (v := .slice A n c) (by decide) u8_len Tryz.underlying22 (by kernel_rfl) (fun cs h => by
    obtain ⟨fuel, x, h⟩ := h
    obtain ⟨n, hn, _⟩ := DataW.trod_int Tryz.underlying5 h
    exact ⟨n, hn⟩) (fun _ => rfl) (tr_of h)
  exact ⟨s, hs, hr, hl⟩
end
set_option maxRecDepth 100000 in
theorem fnAnswered_lifted (os : Os) (started : os.Started) (H : Type) (enc : TypeId × Value → H) :
    ReturnsInHanded {} Tryz.checked os 3 .any (Rows.fnAnsweredSpec.pre6 enc Tryz.prog Tryz.f3 Rows.fnAnsweredRow.domain false) (Rows.fnAnsweredSpec.post enc Tryz.prog Tryz.f3 false true false false) := by
  refine returnsInHanded_of_change (C := Tryz.checked) Fr.own started (by kernel_rfl) Tryz.func3
    (ChangeSpec.witness6 (enc := enc) (C := Tryz.checked) false ⟨#[], #[.slice none 0 0], []⟩ 8 (by kernel_rfl) (by kernel_rfl) (by kernel_rfl) (by kernel_rfl)) ?_
  intro W base args ds gs before hval0 hW hcnd _
  have hval : ∀ (j : Nat) t v, Tryz.f3.params[j]? = some t → args[j]? = some v → Value.okWide Tryz.prog W .any base t v := hval0
  have hW' := hW
  obtain ⟨p, q, hA0, hV, hpq, hfz, hnd⟩ := hW
  obtain ⟨rfl, rfl⟩ := trodVars_none hV
  rw [List.append_nil] at hpq
  subst hpq
  have hA : DataW.TrodAll enc Tryz.prog W 0 (fun _ => true) true Tryz.f3.params.toList args.toList ds before := hA0
  rw [Tryz.params3] at hA hval
  obtain ⟨v0, vs0, d0, ds0, p0, q0, hargs0, rfl, rfl, h0, r_0⟩ := trodAll_cons hA
  obtain ⟨rfl, rfl, rfl⟩ := trodAll_nil r_0
  obtain rfl : args = #[v0] := by cases args; simp_all
  obtain ⟨a0, rfl, r0⟩ := open_bytes (hval 0 22 v0 rfl rfl) h0
  clear hval0
  refine (walk_fnAnswered a0 W r0).mono fun e W' ⟨he, hb⟩ => ?_
  subst he
  exact ⟨_, rfl, law_post Fr.laidOut 4 Tryz.underlying4 rfl rfl hW' hA0 (by kernel_rfl) rfl rfl rfl hb⟩
theorem fnAnswered_holds : Rows.FnAnsweredSaid :=
  OpenClaim.holds_of_wide 3 Tryz.f3 rfl rfl rfl rfl rfl rfl rfl ⟨rfl, rfl, rfl, rfl, rfl⟩ rfl rfl rfl rfl rfl (by kernel_rfl) Tryz.func3 (Fr.facts_of Tryz.prog 3 Tryz.f3 Rows.fnAnsweredSpec Rows.fnAnsweredRow Fr.mayEnter Fr.lifts Fr.make (by kernel_rfl))
    (of_decide_eq_true (by kernel_rfl)) (by unfold Func.isWrapper; first | (rw [if_pos (by decide +kernel)]; kernel_rfl) | (rw [if_neg (by decide +kernel)]; exact ⟨rfl, rfl⟩))
    (fun os started H enc _ => fnAnswered_lifted os started H enc)
#print axioms fnAnswered_holds

end Go.Proofs.YtaafnenmdombiaaGreat
