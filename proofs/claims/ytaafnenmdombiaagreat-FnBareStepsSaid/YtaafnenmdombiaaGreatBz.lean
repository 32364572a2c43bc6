/- Contracts of BareCtl and BareInject, of the program and of the reference. No condition but that the arguments lie in memory. -/
import Derived.Test.YtaafnenmdombiaaGreatBy
namespace Go.Proofs.YtaafnenmdombiaaGreat
set_option linter.unusedSimpArgs false
set_option linter.unusedVariables false
open Go.RowKit
section
variable {w0 w : World} {L : List En} {l l1 l2 : List GV} {k : Nat} {y : GV}
theorem Hp.gst_open (hr : l[k]? = some y) (H : Hp w0 w (.many En.gst l :: L)) : ∃ l1 l2, l = l1 ++ y :: l2 ∧ l1.length = k ∧ Hp w0 w (.ins y.prog :: .slot y.written :: .slot y.live :: .int y.seen :: .many En.gst l1 :: .many En.gst l2 :: L) := by
  obtain ⟨l1, l2, h1, h2, H1⟩ := Hp.many_at hr H
  exact ⟨l1, l2, h1, h2, H1.slices⟩
theorem Hp.gst_close {p : Sl Ins} {wr lv : Sl Slot} {sn : Sl Int} (a pc : Int) (ctl : Ctl) (pn : Int) (x : Exit) (hd : Bool) (H : Hp w0 w (.ins p :: .slot wr :: .slot lv :: .int sn :: .many En.gst l1 :: .many En.gst l2 :: L)) : Hp w0 w (.many En.gst (l1 ++ ⟨p, a, pc, wr, lv, ctl, pn, x, hd, sn⟩ :: l2) :: L) :=
  Hp.many_join (f := En.gst) (H.guest a pc ctl pn x hd)
theorem set_app {α : Type} {l l1 l2 : List α} {k : Nat} {y : α} (h : l = l1 ++ y :: l2) (h1 : l1.length = k) (x : α) : l.set k x = l1 ++ x :: l2 := by subst h; subst h1; simp
end
theorem ch_hit {m : MB} {g : Int} {c : Bool} {F : MG → MG} (h : chOkM m g c = true) : changedM m g c F = withGuestM m g (F (gAtM m g)) := by unfold changedM; rw [if_pos h]
theorem wg_hit {B : BV} {k : Nat} {y : GV} (hy : B.gs.xs[k]? = some y) (F : MG → MG) : withGuestM B.m k (F (gAtM B.m k)) = { B.m with guests := B.m.guests.set k (F y.m) } := by
  unfold withGuestM; rw [if_pos (gAtM_hit hy).2, (gAtM_hit hy).1]; rfl
theorem below_v {P : Program} {f : FuncId} {args : Array Value} {w0 w : World} {L : List En} {v : Value} (H : Hp w0 w L) (h : Calls P f args w (fun e w' => e = .returned v ∧ Below w.heap.size w w')) : Calls P f args w (fun e w' => ∃ u, e = .returned u ∧ (u = v ∧ Hp w0 w' L)) :=
  h.mono fun _ _ ⟨he, hb⟩ => ⟨_, he, rfl, H.still hb⟩
theorem same_v {P : Program} {f : FuncId} {args : Array Value} {w0 w : World} {L : List En} {v : Value} (H : Hp w0 w L) (h : Calls P f args w (fun e w' => e = .returned v ∧ w = w')) : Calls P f args w (fun e w' => ∃ u, e = .returned u ∧ (u = v ∧ Hp w0 w' L)) :=
  h.mono fun _ _ ⟨he, hw⟩ => ⟨_, he, rfl, hw ▸ H⟩
end Go.Proofs.YtaafnenmdombiaaGreat
