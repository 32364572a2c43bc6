/- The law's own helpers on bare machines, said over the memory that the law has made. No condition but that the arguments lie in memory. -/
import Derived.Test.YthpoieoaaikpmaaGreatBb
import Derived.Test.YthpoieoaaikpmaaGreatOpen
namespace Go.Proofs.YthpoieoaaikpmaaGreat
set_option linter.unusedSimpArgs false
set_option linter.unusedVariables false
open Go.RowKit
theorem bbig_m {B d : BV} (h : BBig B) (e : Hid (d.m = B.m)) : BBig d := by have := e.out; unfold BBig at *; rw [this]; exact h
theorem bbig_mm {d : BV} {m : MB} (h : m.size ≤ 4194304) (e : Hid (d.m = m)) : BBig d := by have := e.out; unfold BBig; rw [this]; exact h
theorem bbig_sz {B : BV} (h : ¬ szM 1048576 B.m.size < 0) : B.m.size ≤ 1048576 := by
  unfold szM at h; split at h <;> omega
section
variable {w0 w : World} {L L' : List En}
theorem toB_H (B : BV) (H : Hp w0 w L) (R : BRd w0 B) (Z : BBig B) : Calls Tryz.prog 7 #[B.val] w fun e w' => ∃ d : BV, e = .returned d.val ∧ Hid (d.m = B.m) ∧ Hp w0 w' (.bare d :: L) :=
  (toBare_c B w (R.at_ H) Z).mono fun _ _ ⟨d, he, hm, K⟩ => ⟨d, he, hm, H.add_all K⟩
theorem szB_H (B : BV) (H : Hp w0 w L) (R : BRd w0 B) (Wd : BWide B) : Calls Tryz.prog 5 #[B.val, .int .i64 1048576] w fun e w' => e = .returned (.int .i64 (szM 1048576 B.m.size)) ∧ Hp w0 w' L :=
  (szBare_c B 1048576 w (R.at_ H) Wd (by omega) (by omega)).mono fun _ _ ⟨he, K⟩ => ⟨he, H.add_all K⟩
theorem eqB_H (B C : BV) (H : Hp w0 w L) {L1 L2 : List En} (hg : Take L (.bare B) L1) (hh : Take L (.bare C) L2) (Z : BBig B) (e : B.m = C.m) : Calls Tryz.prog 9 #[B.val, C.val] w fun e w' => e = .returned (.bool true) ∧ Hp w0 w' L :=
  (eqBare_c B C w (H.brd hg) (H.brd hh) Z).mono fun _ _ ⟨he, K⟩ => ⟨by rw [he, e]; simp, H.add_all K⟩
theorem eqX_H (x y : Exit) (H : Hp w0 w L) (e : x = y) : Calls Tryz.prog 147 #[x.val, y.val] w fun e w' => e = .returned (.bool true) ∧ Hp w0 w' L :=
  (eqExit_any x y w).mono fun _ _ ⟨he, hb⟩ => ⟨by rw [he, e]; simp, H.still hb⟩
end
/-! ### an argument that is a bare machine -/
section
open Go.ChangeShapes Go.WideShapes Go.RowKit Go.Deep
section
variable {H : Type} {enc : TypeId × Value → H} {W : World} {base : Nat} {spare : Nat → Bool} {held : Bool}
theorem open_sl2 {α : Type} {en : α → List Value} {sz : Nat} {Q : α → Prop} (hsz : 0 < sz) (hen : ∀ x, (en x).length = sz) {tS e : TypeId} (ht : Tryz.prog.underlying tS = some (.slice e)) (hC : Tryz.prog.cellsOf e = sz)
    (hel : ∀ cs, TR enc W base spare held e cs → ∃ a, cs = en a ∧ Q a) (hsp : ∀ b, spare b = true) {v : Value} (h : TR enc W base spare held tS [v]) : ∃ s : Sl α, v = s.val ∧ Rd en sz W s ∧ s.xs.length ≤ maxLen ∧ ∀ x ∈ s.xs, Q x := by
  obtain ⟨s, hv, hr, hl⟩ := open_sl (α := { a : α // Q a }) (en := fun a => en a.1) hsz (fun x => hen x.1) ht hC (fun cs h => by obtain ⟨a, h1, h2⟩ := hel cs h; exact ⟨⟨a, h2⟩, h1⟩) hsp h
  refine ⟨⟨s.A, s.c, s.xs.map (·.1)⟩, by rw [hv]; simp [Sl.val], ?_, by simpa using hl, ?_⟩
  · intro k x hx
    simp only [List.getElem?_map] at hx
    cases hk : s.xs[k]? with
    | none => rw [hk] at hx; cases hx
    | some y =>
      rw [hk] at hx
      simp only [Option.map_some, Option.some.injEq] at hx
      subst hx
      exact hr k y hk
  · intro x hx
    obtain ⟨y, _, rfl⟩ := List.mem_map.1 hx
    exact y.2
theorem c_intSS : Tryz.prog.cellsOf 22 = 1 := by kernel_rfl
theorem c_guestS : Tryz.prog.cellsOf 23 = 1 := by kernel_rfl
theorem bare_of (hsp : ∀ b, spare b = true) {cs : List Value} (h : TR enc W base spare held 26 cs) : ∃ B : BV, cs = (barr B).toList ∧ BRd W B ∧ BWide B := by
  obtain ⟨hl, hf⟩ := fld Tryz.underlying26 h
  obtain ⟨a, b, c, d, rfl⟩ := len4 (hl.trans (by kernel_rfl))
  obtain ⟨s0, rfl, r0, w0, q0⟩ := open_sl2 (v := a) (Q := fun s : Sl Int => Rd icell 1 W s ∧ s.xs.length ≤ maxLen) (by decide) h_len Tryz.underlying22 (by kernel_rfl) (fun cs h => by
    obtain ⟨hl', _⟩ : cs.length = 1 ∧ True := by
      obtain ⟨fuel, x, h'⟩ := h
      rcases open_slice Tryz.underlying24 h' with ⟨hv, _⟩ | ⟨a, len, cap, m, n, D, Pl, hv, _⟩ <;> (rw [hv]; simp)
    obtain ⟨v, rfl⟩ : ∃ v, cs = [v] := by cases cs with | nil => cases hl' | cons v l => cases l with | nil => exact ⟨v, rfl⟩ | cons _ _ => cases hl'
    obtain ⟨s, hs, hr, hw⟩ := intS_of hsp h
    exact ⟨s, by rw [hs], hr, hw⟩) hsp (fld1 hf 0 _ rfl rfl rfl c_intSS)
  obtain ⟨s1, rfl, r1, w1, q1⟩ := open_sl2 (v := b) (Q := fun g : GV => GRd W g ∧ GWide g) (by decide) g_len Tryz.underlying23 (by kernel_rfl) (fun cs h => by
    obtain ⟨g, hg, hr⟩ := guest_of hsp h
    exact ⟨g, hg, hr⟩) hsp (fld1 hf 1 _ rfl rfl rfl c_guestS)
  obtain ⟨s2, rfl, r2, w2⟩ := intS_of hsp (v := c) (fld1 hf 2 _ rfl rfl rfl c_intS)
  obtain ⟨x3, rfl⟩ := int_of Tryz.underlying3 (v := d) (fld1 hf 3 _ rfl rfl rfl c_int)
  exact ⟨⟨s0, s1, s2, x3⟩, rfl, ⟨r0, fun s hs => (q0 s hs).1, r1, fun g hg => (q1 g hg).1, r2⟩, ⟨w0, fun s hs => (q0 s hs).2, w1, fun g hg => (q1 g hg).2, w2⟩⟩
end
variable {H : Type} {enc : TypeId × Value → H} {W : World} {base : Nat} {r : Reach} {v : Value} {d : DataW H} {p : List MemPlace}
set_option maxRecDepth 100000 in
theorem open_bare (hv : Value.okWide Tryz.prog W r base 26 v) (h : DataW.Trod enc Tryz.prog W 0 (fun _ => true) true 26 v d p) : ∃ B : BV, v = B.val ∧ (BRd W B ∧ BWide B) := by
  have hs := okWide_struct Tryz.underlying26 hv
  obtain ⟨cs, hc, _⟩ := hs
  subst hc
  obtain ⟨B, hg, hr⟩ := bare_of (fun _ => rfl) (tr_of h)
  obtain ⟨l⟩ := cs
  have hg' : l = (barr B).toList := hg
  subst hg'
  exact ⟨B, rfl, hr⟩
end
end Go.Proofs.YthpoieoaaikpmaaGreat
