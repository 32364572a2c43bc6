/- Regions that draw, whose last operation (one that waits for all others) may turn what the others look at. Plain theorems; no condition. -/
import Derived.Test.YtaafnenmdombiaaDr
namespace Go.Proofs.Ytaafnenmdombiaa
open Go.RowKit
/-- Number j waits for number i. -/
def waitsOn (md : Region.Mode) (ops : Array Oper) (j i : Nat) : Bool := ((ops[j]?).map fun o => o.after.any fun e => Region.binds md e && e.on == i).getD false
section
variable {P : Program} {ops : Array Oper} {md : Region.Mode} {S : World → Prop} {Q : Go.Exit → Act → World → Prop} {z : Nat}
/-- Every order of a region; behind each operation but number z S is to be shown anew. -/
def wpAnyL (P : Program) (md : Region.Mode) (ops : Array Oper) (Q : Go.Exit → Act → World → Prop) (S : World → Prop) (z : Nat) : Nat → Array Bool → Act → World → Prop
  | 0, listed, a, w => Region.ready md ops listed = [] ∧ Q .normal a w
  | fuel + 1, listed, a, w => (Region.ready md ops listed = [] → Q .normal a w) ∧
    ∀ i ∈ Region.ready md ops listed, wpOp P ops Q i (fun a' w' => (i ≠ z → S w') ∧ wpAnyL P md ops Q S z fuel (listed.setIfInBounds i true) a' w') a w
theorem anyL_any : ∀ (fuel : Nat) (listed : Array Bool) (a : Act) (w : World), wpAnyL P md ops Q S z fuel listed a w → wpAny P md ops Q fuel listed a w
  | 0, _, _, _, h => h
  | n + 1, _, _, _, h => ⟨h.1, fun i hi => wpOp_mono (fun a' w' hk => anyL_any n _ a' w' hk.2) (h.2 i hi)⟩
theorem waitsOn_no {j i : Nat} {oj : Oper} (hj : ops[j]? = some oj) (hno : ∀ e ∈ oj.after, Region.binds md e = true → e.on ≠ i) : waitsOn md ops j i = false := by
  rw [Bool.eq_false_iff]
  intro h
  simp only [waitsOn, hj, Option.map_some, Option.getD_some, Array.any_eq_true, Bool.and_eq_true, beq_iff_eq] at h
  obtain ⟨k, hk, hb, ho⟩ := h
  exact hno _ (Array.getElem_mem hk) hb ho
theorem anyL_take {i : Nat} {oi : Oper} {v : Value} (hi : ops[i]? = some oi) (hsel : ∀ (j : Nat) (o : Oper) cs b, ops[j]? = some o → o.op ≠ .select cs b) (hQ : ∀ c a w, Q (.panic c) (a.put oi.dst v) w → Q (.panic c) a w) (hz : waitsOn md ops z i = true) (fuel : Nat) :
    ∀ (listed : Array Bool) (a : Act) (w : World), (∀ j oj, ops[j]? = some oj → j ≠ i → listed.getD j true = false → (∀ e ∈ oj.after, Region.binds md e = true → e.on ≠ i) → oi.apart ops oj = true) →
      i ∈ Region.ready md ops listed → YieldsIf P ops S oi v a → S w → wpAnyL P md ops Q S z fuel (listed.setIfInBounds i true) (a.put oi.dst v) w → wpAnyL P md ops Q S z (fuel + 1) listed a w := by
  induction fuel with
  | zero =>
    intro listed a w _ hr hy hS hn
    refine ⟨fun h0 => absurd hr (by rw [h0]; simp), fun j hj => ?_⟩
    rcases Nat.decEq j i with hne | rfl
    · have hm := ready_mono hj hne
      rw [hn.1] at hm; cases hm
    · exact hy.wpOp hi hS ⟨fun _ => hS, hn⟩
  | succ n ih =>
    intro listed a w hap hr hy hS hn
    refine ⟨fun h0 => absurd hr (by rw [h0]; simp), fun j hj => ?_⟩
    by_cases hne : j = i
    · subst hne; exact hy.wpOp hi hS ⟨fun _ => hS, hn⟩
    obtain ⟨hun, oj, hoj, haft⟩ := mem_ready.1 hj
    have hiun := (mem_ready.1 hr).1
    have hno : ∀ e ∈ oj.after, Region.binds md e = true → e.on ≠ i := by
      intro e he hb heq
      have h1 := haft e he hb
      rw [heq] at h1
      by_cases hs : i < listed.size
      · simp [hs] at hiun h1; rw [hiun] at h1; cases h1
      · simp [Array.getElem?_eq_none (Nat.le_of_not_lt hs)] at h1
    have hwa : j ≠ z := by
      intro hjz; subst hjz
      rw [waitsOn_no hoj hno] at hz; cases hz
    have step := wpOp_putIf hoj (hap j oj hoj hne hun hno) (fun cs b => hsel i oi cs b hi) (fun cs b => hsel j oj cs b hoj) hQ hy (hn.2 j (ready_mono hj hne))
    refine wpOp_mono (fun a' w' hk => ⟨fun _ => hk.2.1 hwa, ?_⟩) step
    refine ih (listed.setIfInBounds j true) a' w' ?_ (ready_mono hr (Ne.symm hne)) hk.1 (hk.2.1 hwa) ?_
    · intro k ok hok hki hku
      refine hap k ok hok hki ?_
      by_cases hjk : j = k
      · subst hjk; exact hun
      · rwa [getD_set_ne true hjk] at hku
    · rw [Array.setIfInBounds_comm _ _ hne]; exact hk.2.2
end
section
variable {P : Program} {ops : Array Oper} {md : Region.Mode} {S : World → Prop} {Q : Go.Exit → Act → World → Prop} {o : Oper} {a : Act} {w : World} {fuel z : Nat} {listed : Array Bool} {i j k : Nat}
theorem takeL {i : Nat} {l : List Oper} {v : Value} (hl : ops = l.toArray) (hi : OpAt l i o) (hs : Region.noSelect ops = true) (hf : Region.free md ops listed i = true) (hr : (Region.ready md ops listed).contains i = true)
    (hQ : ∀ c a w, Q (.panic c) (a.put o.dst v) w → Q (.panic c) a w) (hz : waitsOn md ops z i = true) (hy : YieldsIf P ops S o v a) (hS : S w)
    (h : wpAnyL P md ops Q S z fuel (listed.setIfInBounds i true) (a.put o.dst v) w) : wpAnyL P md ops Q S z (fuel + 1) listed a w := by
  have hi' : ops[i]? = some o := by rw [hl]; simpa using hi.eq
  exact anyL_take hi' (Region.noSelect_spec hs) hQ hz fuel listed a w (Region.free_spec hi' hf) (by simpa using hr) hy hS h
theorem anyL_1 (hr : Region.ready md ops listed = [i]) (h : wpOp P ops Q i (fun a' w' => (i ≠ z → S w') ∧ wpAnyL P md ops Q S z fuel (listed.setIfInBounds i true) a' w') a w) : wpAnyL P md ops Q S z (fuel + 1) listed a w :=
  ⟨fun h0 => (by rw [hr] at h0; cases h0), (by rw [hr]; simpa using h)⟩
theorem anyL_done (hr : Region.ready md ops listed = []) (h : Q .normal a w) : ∀ fuel, wpAnyL P md ops Q S z fuel listed a w
  | 0 => ⟨hr, h⟩
  | _ + 1 => ⟨fun _ => h, by rw [hr]; simp⟩
theorem wp_region_last (z : Nat) {id : Nat} (hm : P.follows .mixedOrders = true) (h : wpAnyL P .any ops Q S z ops.size (Array.replicate ops.size false) a w.drew) : (Code.region id ops true).wp P Q a w :=
  wp_region_any hm (anyL_any _ _ _ _ h)
end
end Go.Proofs.Ytaafnenmdombiaa
