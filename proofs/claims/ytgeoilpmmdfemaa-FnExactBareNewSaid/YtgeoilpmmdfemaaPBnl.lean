/- The program's BareNew returns what the reference's returns, for all arguments. No condition. -/
import Derived.Test.YtgeoilpmmdfemaaFrame
import Derived.Test.YtgeoilpmmdfemaaOpen
import Derived.Test.YtgeoilpmmdfemaaBnl
namespace Go.Proofs.Ytgeoilpmmdfemaa
open Go.ChangeShapes Go.WideShapes Go.ChangeAt Go.RowKit Go.Deep
section
variable {H : Type} {enc : TypeId × Value → H} {W : World} {base : Nat} {r : Reach} {v : Value} {d : DataW H} {p : List MemPlace}
set_option maxRecDepth 100000 in
theorem open_inss (hv : Value.okWide Try.prog W r base 56 v) (h : DataW.Trod enc Try.prog W 0 (fun _ => true) true 56 v d p) : ∃ a : Sl (Sl Ins), v = .slice a.A a.xs.length a.c ∧ ((Rd hcells 1 W a ∧ ∀ x ∈ a.xs, Rd Ins.cells 2 W x) ∧ a.xs.length ≤ maxLen ∧ ∀ x ∈ a.xs, x.xs.length ≤ maxLen) := by
  obtain ⟨A, n, c, rfl⟩ := okWide_slice Try.underlying56 hv
  obtain ⟨s0, hs, r0, w0, q0⟩ := open_sl2 (v := .slice A n c) (Q := fun s : Sl Ins => Rd Ins.cells 2 W s ∧ s.xs.length ≤ maxLen) (by decide) h_len Try.underlying56 (by kernel_rfl) (fun cs h => by
    obtain ⟨hl', _⟩ : cs.length = 1 ∧ True := by
      obtain ⟨fuel, x, h'⟩ := h
      rcases open_slice Try.underlying65 h' with ⟨hv, _⟩ | ⟨a, len, cap, m, n, D, Pl, hv, _⟩ <;> (rw [hv]; simp)
    obtain ⟨v, rfl⟩ : ∃ v, cs = [v] := by cases cs with | nil => cases hl' | cons v l => cases l with | nil => exact ⟨v, rfl⟩ | cons _ _ => cases hl'
    obtain ⟨s, hs, hr, hw⟩ := insS_of (fun _ => rfl) h
    exact ⟨s, by rw [hs], hr, hw⟩) (fun _ => rfl) (tr_of h)
  exact ⟨s0, hs, ⟨r0, fun x hx => (q0 x hx).1⟩, w0, fun x hx => (q0 x hx).2⟩
end
set_option maxRecDepth 100000 in
theorem fnExactBareNew_lifted (os : Os) (started : os.Started) (H : Type) (enc : TypeId × Value → H) :
    ReturnsInHanded {} Try.checked os 10 .any (Rows.fnExactBareNewSpec.pre6 enc Try.prog Try.f10 Rows.fnExactBareNewRow.domain false) (Rows.fnExactBareNewSpec.post enc Try.prog Try.f10 false true false false) := by
  refine returnsInHanded_of_change (C := Try.checked) Fr.own started (by kernel_rfl) Try.func10
    (ChangeSpec.witness6 (enc := enc) (C := Try.checked) false ⟨#[], #[.slice none 0 0], []⟩ 8 (by kernel_rfl) (by kernel_rfl) (by kernel_rfl) (by kernel_rfl)) ?_
  intro W base args ds gs before hval0 hW hcnd _
  have hval : ∀ (j : Nat) t v, Try.f10.params[j]? = some t → args[j]? = some v → Value.okWide Try.prog W .any base t v := hval0
  have hW' := hW
  obtain ⟨p, q, hA0, hV, hpq, hfz, hnd⟩ := hW
  obtain ⟨rfl, rfl⟩ := trodVars_none hV
  rw [List.append_nil] at hpq
  subst hpq
  have hA : DataW.TrodAll enc Try.prog W 0 (fun _ => true) true Try.f10.params.toList args.toList ds before := hA0
  rw [Try.params10] at hA hval
  obtain ⟨v0, vs0, d0, ds0, p0, q0, hargs0, rfl, rfl, h0, r_0⟩ := trodAll_cons hA
  obtain ⟨rfl, rfl, rfl⟩ := trodAll_nil r_0
  obtain rfl : args = #[v0] := by cases args; simp_all
  obtain ⟨a0, rfl, r0⟩ := open_inss (hval 0 56 v0 rfl rfl) h0
  clear hval0
  refine (walk_fnExactBareNew a0 W r0).mono fun e W' ⟨he, hb⟩ => ?_
  subst he
  exact ⟨_, rfl, law_post Fr.laidOut 4 Try.underlying4 rfl rfl hW' hA0 (by kernel_rfl) rfl rfl rfl hb⟩
theorem fnExactBareNew_holds : Rows.FnExactBareNewSaid :=
  OpenClaim.holds_of_wide 10 Try.f10 rfl rfl rfl rfl rfl rfl rfl ⟨rfl, rfl, rfl, rfl, rfl⟩ rfl rfl rfl rfl rfl (by kernel_rfl) Try.func10 (Fr.facts_of Try.prog 10 Try.f10 Rows.fnExactBareNewSpec Rows.fnExactBareNewRow Fr.mayEnter Fr.lifts Fr.make (by kernel_rfl))
    (of_decide_eq_true (by kernel_rfl)) (by unfold Func.isWrapper; first | (rw [if_pos (by decide +kernel)]; kernel_rfl) | (rw [if_neg (by decide +kernel)]; exact ⟨rfl, rfl⟩))
    (fun os started H enc _ => fnExactBareNew_lifted os started H enc)
#print axioms fnExactBareNew_holds

end Go.Proofs.Ytgeoilpmmdfemaa
