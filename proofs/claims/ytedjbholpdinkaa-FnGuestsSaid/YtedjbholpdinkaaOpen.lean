/- An argument of a law, as memory holds it: its value written out, and that its slices read as lists. No condition. -/
import Derived.Test.YtedjbholpdinkaaLGe
import Derived.ProofKit
import Derived.Deep.Slices
namespace Go.Proofs.Ytedjbholpdinkaa
open Go.ChangeShapes Go.WideShapes Go.RowKit Go.Deep

section
variable {H : Type} {enc : TypeId × Value → H} {W : World} {base : Nat} {spare : Nat → Bool} {held : Bool}
abbrev TR (enc : TypeId × Value → H) (W : World) (base : Nat) (spare : Nat → Bool) (held : Bool) (t : TypeId) (cs : List Value) : Prop := ∃ (fuel : Nat) (x : DataW H × List MemPlace), DataW.trod enc Try.prog W base spare held fuel t cs = some x

theorem choose_list {α : Type} {P : Nat → α → Prop} : ∀ n : Nat, (∀ i, i < n → ∃ a, P i a) → ∃ xs : List α, xs.length = n ∧ ∀ i x, xs[i]? = some x → P i x
  | 0, _ => ⟨[], rfl, by simp⟩
  | n + 1, h => by
    obtain ⟨xs, hl, hx⟩ := choose_list n (fun i hi => h i (by omega))
    obtain ⟨a, ha⟩ := h n (by omega)
    refine ⟨xs ++ [a], by simp [hl], fun i x hi => ?_⟩
    by_cases hin : i < xs.length
    · rw [List.getElem?_append_left hin] at hi; exact hx i x hi
    · rw [List.getElem?_append_right (by omega)] at hi
      by_cases hi0 : i - xs.length = 0
      · rw [hi0] at hi
        simp at hi
        have : i = n := by omega
        subst this; subst hi; exact ha
      · have : ([a] : List α)[i - xs.length]? = none := by rw [List.getElem?_eq_none]; simp; omega
        rw [this] at hi; cases hi
theorem addr_plain {w : World} {a : Addr} {v : Value} (h : w.cell? a = some v) : ∃ b o, a = ⟨b, o, none⟩ := by
  obtain ⟨b, o, s⟩ := a
  cases s with
  | none => exact ⟨b, o, rfl⟩
  | some s => simp [World.cell?] at h; split at h <;> simp_all
theorem open_sl {α : Type} {en : α → List Value} {sz : Nat} (hsz : 0 < sz) (hen : ∀ x, (en x).length = sz) {tS e : TypeId} (ht : Try.prog.underlying tS = some (.slice e)) (hC : Try.prog.cellsOf e = sz)
    (hel : ∀ cs, TR enc W base spare held e cs → ∃ a, cs = en a) (hsp : ∀ b, spare b = true) {v : Value} (h : TR enc W base spare held tS [v]) : ∃ s : Sl α, v = s.val ∧ Rd en sz W s ∧ s.xs.length ≤ maxLen := by
  obtain ⟨fuel, x, h⟩ := h
  rcases open_slice ht h with ⟨hv, _⟩ | ⟨a, len, cap, m, n, D, Pl, hv, _, hlc, hcm, hm, _, hi⟩
  · simp only [List.cons.injEq, and_true] at hv
    exact ⟨⟨none, 0, []⟩, hv, Rd.nil _ _ _, by simp [maxLen]⟩
  · simp only [List.cons.injEq, and_true] at hv
    have hmc : m = cap := by rw [hm, if_pos (hsp _)]
    obtain ⟨xs, hl, hx⟩ := choose_list (P := fun i (y : α) => W.cells? base (a.add (i * sz)) sz = some (en y)) len (fun i hil => by
      obtain ⟨cs', hc, ht'⟩ := hi i (by omega)
      obtain ⟨y, hy⟩ := hel cs' ⟨_, _, ht'⟩
      rw [hC] at hc
      exact ⟨y, by rw [hc, hy]⟩)
    refine ⟨⟨some a, cap, xs⟩, by rw [hv, Sl.val, hl], fun k y hk => ?_, by simp only [hl]; omega⟩
    have hkl : k < len := by rw [← hl]; exact (List.getElem?_eq_some_iff.1 hk).1
    have hpl : ∃ b o, a = ⟨b, o, none⟩ := by
      have h0 : 0 < xs.length := by omega
      obtain ⟨_, hlen0, hat⟩ := World.cells?_some (hx 0 _ (List.getElem?_eq_getElem h0))
      have hc := hat 0 hsz
      have hv0 : (en (xs[0]'h0))[0]? = some ((en (xs[0]'h0))[0]'(by rw [hen]; exact hsz)) := List.getElem?_eq_getElem _
      rw [hv0] at hc
      have e0 : (a.add (0 * sz)).add 0 = a := by simp [Addr.add]
      rw [e0] at hc
      exact addr_plain hc
    obtain ⟨b, o, rfl⟩ := hpl
    obtain ⟨_, _, hat⟩ := World.cells?_some (hx k y hk)
    have e1 : ∀ j, ((⟨b, o, none⟩ : Addr).add (k * sz)).add j = ⟨b, o + k * sz + j, none⟩ := by
      intro j
      unfold Addr.add
      by_cases h1 : k * sz = 0 <;> by_cases h2 : j = 0 <;> simp [h1, h2]
    refine ⟨b, o, rfl, ?_, fun j v hj => ?_⟩
    · have hc := hat 0 hsz
      have hv0 : (en y)[0]? = some ((en y)[0]'(by rw [hen]; exact hsz)) := List.getElem?_eq_getElem _
      rw [hv0, e1] at hc
      exact World.block_lt_of_cell? _ _ hc
    · rw [← hj, ← e1]
      exact hat j (by rw [← hen y]; exact (List.getElem?_eq_some_iff.1 hj).1)
theorem take1 {cs : List Value} {i : Nat} {c : Value} (h : cs[i]? = some c) : (cs.drop i).take 1 = [c] := by
  obtain ⟨hi, rfl⟩ := List.getElem?_eq_some_iff.1 h
  rw [List.drop_eq_getElem_cons hi]; rfl
theorem int_of {t : TypeId} (ht : Try.prog.underlying t = some (.int .i64)) {v : Value} (h : TR enc W base spare held t [v]) : ∃ n : Int, v = .int .i64 n := by
  obtain ⟨fuel, x, h⟩ := h
  obtain ⟨n, hn, _⟩ := DataW.trod_int ht h
  exact ⟨n, by simpa using hn⟩
theorem bool_of {t : TypeId} (ht : Try.prog.underlying t = some .bool) {v : Value} (h : TR enc W base spare held t [v]) : ∃ b : Bool, v = .bool b := by
  obtain ⟨fuel, x, h⟩ := h
  obtain ⟨n, hn, _⟩ := DataW.trod_bool ht h
  exact ⟨n, by simpa using hn⟩
theorem fld {fs : Array Field} {t : TypeId} {cs : List Value} (ht : Try.prog.underlying t = some (.struct fs)) (h : TR enc W base spare held t cs) : cs.length = Try.prog.cellsOf t ∧
    ∀ (i : Nat) (f : Field), fs[i]? = some f → TR enc W base spare held f.type ((cs.drop f.offset).take (Try.prog.cellsOf f.type)) := by
  obtain ⟨fuel, x, h⟩ := h
  obtain ⟨xs, n, _, _, hl, hxl, hf⟩ := DataW.trod_struct ht h
  refine ⟨hl, fun i f hi => ?_⟩
  have h1 := hf i f hi
  have hlt : i < xs.length := by rw [hxl]; exact (Array.getElem?_eq_some_iff.1 hi).1
  rw [List.getElem?_eq_getElem hlt] at h1
  exact ⟨n, _, h1⟩
theorem fld1 {fs : Array Field} {cs : List Value} (hf : ∀ (i : Nat) (f : Field), fs[i]? = some f → TR enc W base spare held f.type ((cs.drop f.offset).take (Try.prog.cellsOf f.type))) (i : Nat) (f : Field) (hi : fs[i]? = some f)
    {t' off n : Nat} (h1 : f.type = t') (h2 : f.offset = off) (h3 : Try.prog.cellsOf t' = n) : TR enc W base spare held t' ((cs.drop off).take n) := by
  subst h1; subst h2; subst h3; exact hf i f hi
theorem len2 {cs : List Value} (h : cs.length = 2) : ∃ a b, cs = [a, b] := by
  match cs, h with
  | [a, b], _ => exact ⟨a, b, rfl⟩
theorem len3 {cs : List Value} (h : cs.length = 3) : ∃ a b c, cs = [a, b, c] := by
  match cs, h with
  | [a, b, c], _ => exact ⟨a, b, c, rfl⟩
theorem len4 {cs : List Value} (h : cs.length = 4) : ∃ a b c d, cs = [a, b, c, d] := by
  match cs, h with
  | [a, b, c, d], _ => exact ⟨a, b, c, d, rfl⟩
theorem len15 {cs : List Value} (h : cs.length = 15) : ∃ a b c d e f g i j k l m n o p, cs = [a, b, c, d, e, f, g, i, j, k, l, m, n, o, p] := by
  match cs, h with
  | [a, b, c, d, e, f, g, i, j, k, l, m, n, o, p], _ => exact ⟨a, b, c, d, e, f, g, i, j, k, l, m, n, o, p, rfl⟩
theorem c_int : Try.prog.cellsOf 3 = 1 := by kernel_rfl
theorem c_bool : Try.prog.cellsOf 4 = 1 := by kernel_rfl
theorem two_of {t : TypeId} {f0 f1 : Field} (ht : Try.prog.underlying t = some (.struct #[f0, f1])) (hC : Try.prog.cellsOf t = 2) (h0 : f0.type = 3) (h1 : f1.type = 3) (o0 : f0.offset = 0) (o1 : f1.offset = 1) {cs : List Value} (h : TR enc W base spare held t cs) :
    ∃ a b : Int, cs = [.int .i64 a, .int .i64 b] := by
  obtain ⟨hl, hf⟩ := fld ht h
  obtain ⟨a, b, rfl⟩ := len2 (hl.trans hC)
  have e0 := hf 0 f0 rfl
  have e1 := hf 1 f1 rfl
  rw [h0, o0, c_int] at e0
  rw [h1, o1, c_int] at e1
  obtain ⟨x, rfl⟩ := int_of Try.underlying3 e0
  obtain ⟨y, rfl⟩ := int_of Try.underlying3 e1
  exact ⟨x, y, rfl⟩
theorem ins_of {cs : List Value} (h : TR enc W base spare held 100 cs) : ∃ i : Ins, cs = i.cells := by
  obtain ⟨a, b, rfl⟩ := two_of Try.underlying100 (by kernel_rfl) rfl rfl rfl rfl h
  exact ⟨⟨a, b⟩, rfl⟩
theorem slot_of {cs : List Value} (h : TR enc W base spare held 125 cs) : ∃ i : Slot, cs = i.cells := by
  obtain ⟨a, b, rfl⟩ := two_of Try.underlying125 (by kernel_rfl) rfl rfl rfl rfl h
  exact ⟨⟨a, b⟩, rfl⟩
theorem ctl_of {cs : List Value} (h : TR enc W base spare held 53 cs) : ∃ c : Ctl, cs = [.int .i64 c.traps, .int .i64 c.post, .bool c.opn] := by
  obtain ⟨hl, hf⟩ := fld Try.underlying53 h
  obtain ⟨a, b, c, rfl⟩ := len3 (hl.trans (by kernel_rfl))
  obtain ⟨x, rfl⟩ := int_of Try.underlying3 (v := a) (fld1 hf 0 _ rfl rfl rfl c_int)
  obtain ⟨y, rfl⟩ := int_of Try.underlying3 (v := b) (fld1 hf 1 _ rfl rfl rfl c_int)
  obtain ⟨z, rfl⟩ := bool_of Try.underlying4 (v := c) (fld1 hf 2 _ rfl rfl rfl c_bool)
  exact ⟨⟨x, y, z⟩, rfl⟩
theorem exit_of {cs : List Value} (h : TR enc W base spare held 54 cs) : ∃ c : Exit, cs = [.int .i64 c.kind, .int .i64 c.page, .bool c.write, .int .i64 c.n] := by
  obtain ⟨hl, hf⟩ := fld Try.underlying54 h
  obtain ⟨a, b, c, d, rfl⟩ := len4 (hl.trans (by kernel_rfl))
  obtain ⟨x, rfl⟩ := int_of Try.underlying3 (v := a) (fld1 hf 0 _ rfl rfl rfl c_int)
  obtain ⟨y, rfl⟩ := int_of Try.underlying3 (v := b) (fld1 hf 1 _ rfl rfl rfl c_int)
  obtain ⟨z, rfl⟩ := bool_of Try.underlying4 (v := c) (fld1 hf 2 _ rfl rfl rfl c_bool)
  obtain ⟨u, rfl⟩ := int_of Try.underlying3 (v := d) (fld1 hf 3 _ rfl rfl rfl c_int)
  exact ⟨⟨x, y, z, u⟩, rfl⟩
theorem c_insS : Try.prog.cellsOf 51 = 1 := by kernel_rfl
theorem c_slotS : Try.prog.cellsOf 52 = 1 := by kernel_rfl
theorem c_intS : Try.prog.cellsOf 24 = 1 := by kernel_rfl
theorem c_ctl : Try.prog.cellsOf 53 = 3 := by kernel_rfl
theorem c_exit : Try.prog.cellsOf 54 = 4 := by kernel_rfl
theorem insS_of (hsp : ∀ b, spare b = true) {v : Value} (h : TR enc W base spare held 51 [v]) : ∃ s : Sl Ins, v = s.val ∧ Rd Ins.cells 2 W s ∧ s.xs.length ≤ maxLen :=
  open_sl (by decide) ins_len Try.underlying51 (by kernel_rfl) (fun _ h => ins_of h) hsp h
theorem slotS_of (hsp : ∀ b, spare b = true) {v : Value} (h : TR enc W base spare held 52 [v]) : ∃ s : Sl Slot, v = s.val ∧ Rd Slot.cells 2 W s ∧ s.xs.length ≤ maxLen :=
  open_sl (by decide) slot_len Try.underlying52 (by kernel_rfl) (fun _ h => slot_of h) hsp h
theorem intS_of (hsp : ∀ b, spare b = true) {v : Value} (h : TR enc W base spare held 24 [v]) : ∃ s : Sl Int, v = s.val ∧ Rd icell 1 W s ∧ s.xs.length ≤ maxLen :=
  open_sl (by decide) int_len Try.underlying24 (by kernel_rfl) (fun cs h => by
    obtain ⟨fuel, x, h⟩ := h
    obtain ⟨n, hn, _⟩ := DataW.trod_int Try.underlying3 h
    exact ⟨n, hn⟩) hsp h
theorem guest_of (hsp : ∀ b, spare b = true) {cs : List Value} (h : TR enc W base spare held 56 cs) : ∃ g : GV, cs = (garr g).toList ∧ GRd W g ∧ GWide g := by
  obtain ⟨hl, hf⟩ := fld Try.underlying56 h
  obtain ⟨a, b, c, d, e, f, g, i, j, k, l, m, n, o, p, rfl⟩ := len15 (hl.trans (by kernel_rfl))
  obtain ⟨s0, rfl, r0, w0⟩ := insS_of hsp (v := a) (fld1 hf 0 _ rfl rfl rfl c_insS)
  obtain ⟨x1, rfl⟩ := int_of Try.underlying3 (v := b) (fld1 hf 1 _ rfl rfl rfl c_int)
  obtain ⟨x2, rfl⟩ := int_of Try.underlying3 (v := c) (fld1 hf 2 _ rfl rfl rfl c_int)
  obtain ⟨s3, rfl, r3, w3⟩ := slotS_of hsp (v := d) (fld1 hf 3 _ rfl rfl rfl c_slotS)
  obtain ⟨s4, rfl, r4, w4⟩ := slotS_of hsp (v := e) (fld1 hf 4 _ rfl rfl rfl c_slotS)
  obtain ⟨c5, h5⟩ := ctl_of (fld1 hf 5 _ rfl rfl rfl c_ctl)
  obtain ⟨x6, rfl⟩ := int_of Try.underlying3 (v := j) (fld1 hf 6 _ rfl rfl rfl c_int)
  obtain ⟨c7, h7⟩ := exit_of (fld1 hf 7 _ rfl rfl rfl c_exit)
  obtain ⟨x8, rfl⟩ := bool_of Try.underlying4 (v := o) (fld1 hf 8 _ rfl rfl rfl c_bool)
  obtain ⟨s9, rfl, r9, w9⟩ := intS_of hsp (v := p) (fld1 hf 9 _ rfl rfl rfl c_intS)
  simp at h5 h7
  obtain ⟨rfl, rfl, rfl⟩ := h5
  obtain ⟨rfl, rfl, rfl, rfl⟩ := h7
  exact ⟨⟨s0, x1, x2, s3, s4, c5, x6, c7, x8, s9⟩, rfl, ⟨r0, r3, r4, r9⟩, w0, w3, w4, w9⟩
end
/-! ### as the frame asks -/
section
variable {H : Type} {enc : TypeId × Value → H} {W : World} {base : Nat} {r : Reach} {v : Value} {d : DataW H} {p : List MemPlace}
theorem tr_of {t : TypeId} (h : DataW.Trod enc Try.prog W 0 (fun _ => true) true t v d p) : TR enc W 0 (fun _ => true) true t v.cells.toList := by
  obtain ⟨n, h⟩ := h
  exact ⟨n, _, h⟩
set_option maxRecDepth 100000 in
theorem open_guest (hv : Value.okWide Try.prog W r base 56 v) (h : DataW.Trod enc Try.prog W 0 (fun _ => true) true 56 v d p) : ∃ a : GV, v = a.val ∧ (GRd W a ∧ GWide a) := by
  have hs := okWide_struct Try.underlying56 hv
  obtain ⟨cs, hc, _⟩ := hs
  subst hc
  obtain ⟨g, hg, hr⟩ := guest_of (fun _ => rfl) (tr_of h)
  obtain ⟨l⟩ := cs
  have hg' : l = (garr g).toList := hg
  subst hg'
  exact ⟨g, rfl, hr⟩
set_option maxRecDepth 100000 in
theorem open_exit (hv : Value.okWide Try.prog W r base 54 v) (h : DataW.Trod enc Try.prog W 0 (fun _ => true) true 54 v d p) : ∃ a : Exit, v = a.val := by
  have hs := okWide_struct Try.underlying54 hv
  obtain ⟨cs, hc, _⟩ := hs
  subst hc
  obtain ⟨g, hg⟩ := exit_of (tr_of h)
  obtain ⟨l⟩ := cs
  have hg' : l = [.int .i64 g.kind, .int .i64 g.page, .bool g.write, .int .i64 g.n] := hg
  subst hg'
  exact ⟨g, rfl⟩
end
end Go.Proofs.Ytedjbholpdinkaa
