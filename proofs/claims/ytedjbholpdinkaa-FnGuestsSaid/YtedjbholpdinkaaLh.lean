/- The law's own helpers on guests, said over the memory that the law has made; and the walks of the exact laws whose functions hand back a guest. No condition but that the arguments lie in memory. -/
import Derived.Test.YtedjbholpdinkaaMk
import Derived.Test.YtedjbholpdinkaaMl
import Derived.Test.YtedjbholpdinkaaLawB
namespace Go.Proofs.Ytedjbholpdinkaa
open Go.RowKit
attribute [local go_sem ↓] Go.wp_at_zero Go.wp_at_succ
theorem gbig_m {g d : GV} (h : GBig g) (e : Hid (d.m = g.m)) : GBig d := gbig_of h e.out
theorem gbig_mm {d : GV} {m : MG} (h : MBig m) (e : Hid (d.m = m)) : GBig d := by have := e.out; unfold GBig; subst this; exact h
section
variable {w0 w : World} {L L' : List En}
theorem Hp.cells (H : Hp w0 w L) {b : Nat} {e : TypeId} {cs : List Value} (t : Take L (.box b e cs) L') : ∀ o, w.cell? ⟨b, o, none⟩ = cs.toArray[o]? := by
  have h : Rw w b e cs.toArray := H.get t
  exact fun o => h.c o
theorem toG_H (a : GV) (H : Hp w0 w L) (R : GRd w0 a) (Z : GBig a) : Calls Try.prog 36 #[a.val] w fun e w' => ∃ d : GV, e = .returned d.val ∧ Hid (d.m = a.m) ∧ Hp w0 w' (.gst d :: L) :=
  (toGuest_any a w (R.at_ H) Z).mono fun _ _ ⟨d, he, hm, ho, hb⟩ => ⟨d, he, hm, H.add_gst ho hb⟩
theorem step_store_H {P : Program} {ops : Array Oper} {o : Oper} {a : Act} {Q : Go.Exit → Act → World → Prop} {E : Prop} (hgd : Region.wanted o (yielded ops a.tmps) = true) {ty : TypeId} {x y : Operand} (ho : o.op = .store ty x y) (H : Hp w0 w L) {b i : Nat} (hx : a.eval x = .pointer (some ⟨b, i, none⟩)) {v : Value} (hy : a.eval y = v) {n : Nat} [hN : TyN P ty n] (hS : StoreAt L b i v n L')
    {K : Act → World → Prop} (h : ∀ w', Hp w0 w' L' → K (a.put o.dst undef) w') : if Region.wanted o (yielded ops a.tmps) = true then Oper.wp P o a w K Q else E := by
  rw [if_pos hgd]; exact wp_store_H ho H hx hy hS h
theorem exit_H (x : Exit) (H : Hp w0 w L) : Calls Try.prog 47 #[x.val] w fun e w' => e = .returned x.val ∧ Hp w0 w' L :=
  (toExit_any x w).mono fun _ _ ⟨he, hb⟩ => ⟨he, H.still hb⟩
theorem mkG_H {f : FuncId} {args : Array Value} {m : MG} (H : Hp w0 w L) (h : Calls Try.prog f args w (MkG w m)) : Calls Try.prog f args w fun e w' => ∃ d : GV, e = .returned d.val ∧ Hid (d.m = m) ∧ Hp w0 w' (.gst d :: L) :=
  h.mono fun _ _ h => by obtain ⟨d, he, hm, ho, hb⟩ := MkGc.val h; exact ⟨d, he, hm, H.add_gst ho hb⟩
theorem eqG_H (g h : GV) (H : Hp w0 w L) {L1 L2 : List En} (hg : Take L (.gst g) L1) (hh : Take L (.gst h) L2) (hz : GBig g) (e : g.m = h.m) : Calls Try.prog 38 #[g.val, h.val] w fun e w' => e = .returned (.bool true) ∧ Hp w0 w' L :=
  (eqGuest_any g h w (H.gown hg).rd (H.gown hh).rd hz).mono fun _ _ ⟨he, hb⟩ => ⟨by rw [he, e]; simp, H.still hb⟩
theorem Hp.swap {e e' : En} (H : Hp w0 w L) {w' : World} (t : Take L e L') (hT : Touch e.bl w w') (hok : e'.ok w') (hbl : e'.bl = e.bl) : Hp w0 w' (e' :: L') :=
  (H.take t).turn hT hok (fun b hb => .inl (by rw [← hbl]; exact hb)) (by
    rw [hbl]
    have nd := (H.take t).nd
    rw [List.flatMap_cons, List.nodup_append] at nd
    exact nd.1)
theorem markG_H (g : GV) (H : Hp w0 w L) (t : Take L (.gst g) L') (hz : GBig g) : Calls Try.prog 44 #[g.val, .int .i64 1] w fun e w' => e = .returned (.int .i64 (g.markEnd 1)) ∧ Hp w0 w' (.gst (g.marked 1) :: L') :=
  (markGuest_any g 0 1 w ((H.gown t).mono (Nat.zero_le _)) hz (by omega) (by omega)).mono fun _ _ ⟨he, ho, ht⟩ => ⟨he, H.swap t ht ho rfl⟩
theorem marked_val (g : GV) : (g.marked 1).val = g.val := by simp [GV.val, GV.marked, marksIns_len, marksSlot_len, marksInt_len]
theorem marked_end (g : GV) : (g.marked 1).markEnd 1 = g.markEnd 1 := by simp [GV.markEnd, GV.marked, marksIns_len, marksSlot_len, marksInt_len]
theorem heldG_H (g : GV) (H : Hp w0 w L) (t : Take L (.gst (g.marked 1)) L') (hz : GBig g) : Calls Try.prog 45 #[g.val, .int .i64 1] w fun e w' => e = .returned (.int .i64 (g.markEnd 1)) ∧ Hp w0 w' L := by
  rw [← marked_val g, ← marked_end g]
  have hz' : GBig (g.marked 1) := by unfold GBig GV.marked at *; simpa [marksIns_len, marksSlot_len, marksInt_len] using hz
  refine (heldGuest_any (g.marked 1) 1 w (H.gown t).rd hz' ?_ ?_ ?_ ?_ (by omega) (by omega)).mono fun _ _ ⟨he, hb⟩ => ⟨he, H.still hb⟩
  all_goals simp [GV.marked, marksIns_len, marksSlot_len, marksInt_len]
theorem markEnd_pos (g : GV) : 0 ≤ g.markEnd 1 := by unfold GV.markEnd; omega
end
theorem interruptedM_big {m : MG} (h : MBig m) : MBig (interruptedM m) := by
  unfold interruptedM; split
  · exact sawM_big (m := { m with pending := tookI m.pending }) h _
  · exact h
theorem plainlyM_big {m : MG} (h : MBig m) : MBig (plainlyM m) := by
  unfold plainlyM
  repeat' split
  all_goals exact h
end Go.Proofs.Ytedjbholpdinkaa
