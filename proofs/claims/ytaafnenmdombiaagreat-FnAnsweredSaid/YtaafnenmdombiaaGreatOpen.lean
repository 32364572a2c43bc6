/- An argument of a law, as memory holds it: its value written out, and that its slices read as lists. No condition. -/
import Derived.Test.YtaafnenmdombiaaGreatLGe
import Derived.ProofKit
import Derived.Deep.Slices
namespace Go.Proofs.YtaafnenmdombiaaGreat
open Go.ChangeShapes Go.WideShapes Go.RowKit Go.Deep

section
variable {H : Type} {enc : TypeId × Value → H} {W : World} {base : Nat} {spare : Nat → Bool} {held : Bool}
abbrev TR (enc : TypeId × Value → H) (W : World) (base : Nat) (spare : Nat → Bool) (held : Bool) (t : TypeId) (cs : List Value) : Prop := ∃ (fuel : Nat) (x : DataW H × List MemPlace), DataW.trod enc Tryz.prog W base spare held fuel t cs = some x

theorem choose_list {α : Type} {P : Nat → α → Prop} : ∀ n : Nat, (∀ i, i < n → ∃ a, P i a) → ∃ xs : List α, xs.length = n ∧ ∀ i x, xs[i]? = some x → P i x
  | 0, _ => ⟨[], rfl, by simp⟩
  | n + 1, h => by
    obtain ⟨xs, hl, hx⟩ := choose_list n (fun i hi => h i (by omega))
    obtain ⟨a, ha⟩ := h n (by omega)
    refine ⟨xs ++ [a], by simp [hl], fun i x hi => ?_⟩
    by_cases hin : i < xs.length
    · rw [List.getElem?_append_left hin] at hi; exact hx i x hi
    · rw [List.getElem?_append_right (by omega)] at hi
      by_cases hi0 : i - xs.length = 0
      · rw [hi0] at hi
        simp at hi
        have : i = n := by omega
        subst this; subst hi; exact ha
      · have : ([a] : List α)[i - xs.length]? = none := by rw [List.getElem?_eq_none]; simp; omega
        rw [this] at hi; cases hi
theorem addr_plain {w : World} {a : Addr} {v : Value} (h : w.cell? a = some v) : ∃ b o, a = ⟨b, o, none⟩ := by
  obtain ⟨b, o, s⟩ := a
  cases s with
  | none => exact ⟨b, o, rfl⟩
  | some s => simp [World.cell?] at h; split at h <;> simp_all
theorem open_sl {α : Type} {en : α → List Value} {sz : Nat} (hsz : 0 < sz) (hen : ∀ x, (en x).length = sz) {tS e : TypeId} (ht : Tryz.prog.underlying tS = some (.slice e)) (hC : Tryz.prog.cellsOf e = sz)
    (hel : ∀ cs, TR enc W base spare held e cs → ∃ a, cs = en a) (hsp : ∀ b, spare b = true) {v : Value} (h : TR enc W base spare held tS [v]) : ∃ s : Sl α, v = s.val ∧ Rd en sz W s ∧ s.xs.length ≤ maxLen := by
  obtain ⟨fuel, x, h⟩ := h
  rcases open_slice ht h with ⟨hv, _⟩ | ⟨a, len, cap, m, n, D, Pl, hv, _, hlc, hcm, hm, _, hi⟩
  · simp only [List.cons.injEq, and_true] at hv
    exact ⟨⟨none, 0, []⟩, hv, Rd.nil _ _ _, by simp [maxLen]⟩
  · simp only [List.cons.injEq, and_true] at hv
    have hmc : m = cap := by rw [hm, if_pos (hsp _)]
    obtain ⟨xs, hl, hx⟩ := choose_list (P := fun i (y : α) => W.cells? base (a.add (i * sz)) sz = some (en y)) len (fun i hil => by
      obtain ⟨cs', hc, ht'⟩ := hi i (by omega)
      obtain ⟨y, hy⟩ := hel cs' ⟨_, _, ht'⟩
      rw [hC] at hc
      exact ⟨y, by rw [hc, hy]⟩)
    refine ⟨⟨some a, cap, xs⟩, by rw [hv, Sl.val, hl], fun k y hk => ?_, by simp only [hl]; omega⟩
    have hkl : k < len := by rw [← hl]; exact (List.getElem?_eq_some_iff.1 hk).1
    have hpl : ∃ b o, a = ⟨b, o, none⟩ := by
      have h0 : 0 < xs.length := by omega
      obtain ⟨_, hlen0, hat⟩ := World.cells?_some (hx 0 _ (List.getElem?_eq_getElem h0))
      have hc := hat 0 hsz
      have hv0 : (en (xs[0]'h0))[0]? = some ((en (xs[0]'h0))[0]'(by rw [hen]; exact hsz)) := List.getElem?_eq_getElem _
      rw [hv0] at hc
      have e0 : (a.add (0 * sz)).add 0 = a := by simp [Addr.add]
      rw [e0] at hc
      exact addr_plain hc
    obtain ⟨b, o, rfl⟩ := hpl
    obtain ⟨_, _, hat⟩ := World.cells?_some (hx k y hk)
    have e1 : ∀ j, ((⟨b, o, none⟩ : Addr).add (k * sz)).add j = ⟨b, o + k * sz + j, none⟩ := by
      intro j
      unfold Addr.add
      by_cases h1 : k * sz = 0 <;> by_cases h2 : j = 0 <;> simp [h1, h2]
    refine ⟨b, o, rfl, ?_, fun j v hj => ?_⟩
    · have hc := hat 0 hsz
      have hv0 : (en y)[0]? = some ((en y)[0]'(by rw [hen]; exact hsz)) := List.getElem?_eq_getElem _
      rw [hv0, e1] at hc
      exact World.block_lt_of_cell? _ _ hc
    · rw [← hj, ← e1]
      exact hat j (by rw [← hen y]; exact (List.getElem?_eq_some_iff.1 hj).1)
end
/-! ### as the frame asks -/
section
variable {H : Type} {enc : TypeId × Value → H} {W : World} {base : Nat} {r : Reach} {v : Value} {d : DataW H} {p : List MemPlace}
theorem tr_of {t : TypeId} (h : DataW.Trod enc Tryz.prog W 0 (fun _ => true) true t v d p) : TR enc W 0 (fun _ => true) true t v.cells.toList := by
  obtain ⟨n, h⟩ := h
  exact ⟨n, _, h⟩
end
end Go.Proofs.YtaafnenmdombiaaGreat
