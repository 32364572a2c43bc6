/- The laws' own marks on bare machines. No condition but that the argument is the call's own. -/
import Derived.Test.YthpoieoaaikpmaaGreatBg
import Derived.Test.YthpoieoaaikpmaaGreatBh
namespace Go.Proofs.YthpoieoaaikpmaaGreat
set_option linter.unusedSimpArgs false
set_option linter.unusedVariables false
open Go.RowKit
def BV.k1 (B : BV) (k : Int) : Int := k + 1 * ((B.mem.xs.map (fun x => x.xs.length)).sum : Nat)
def BV.k2 (B : BV) (k : Int) : Int := B.k1 k + ((B.gs.xs.map wG).sum : Nat)
def BV.marked (B : BV) (k : Int) : BV := ⟨⟨B.mem.A, B.mem.c, mksI k B.mem.xs⟩, ⟨B.gs.A, B.gs.c, mksG (B.k1 k) B.gs.xs⟩, ⟨B.outs.A, B.outs.c, marksInt (B.k2 k) B.outs.xs.length⟩, B.pend⟩
def BV.markEnd (B : BV) (k : Int) : Int := B.k2 k + 1 * (B.outs.xs.length : Int)
theorem sum_le_of {α : Type} {f g : α → Nat} {c d : Nat} (h : ∀ x, f x ≤ c * g x + d) (l : List α) : (l.map f).sum ≤ c * (l.map g).sum + d * l.length := by
  induction l with
  | nil => simp
  | cons x l ih => have := h x; simp only [List.map_cons, List.sum_cons, List.length_cons, Nat.mul_add]; rw [Nat.mul_succ]; omega
theorem wG_le (y : GV) : wG y ≤ 2 * y.m.size + 11 := by
  have e : y.m.size = y.prog.xs.length + y.written.xs.length + y.live.xs.length + y.seen.xs.length := rfl
  have e2 : wG y = 2 * y.prog.xs.length + 2 * y.written.xs.length + 2 * y.live.xs.length + y.seen.xs.length + 11 := rfl
  omega
theorem BBig.sums {B : BV} (h : BBig B) : (B.mem.xs.map (fun x => x.xs.length)).sum ≤ 4194304 ∧ (B.gs.xs.map wG).sum ≤ 100000000 := by
  have h1 := sum_le_of (c := 2) (d := 11) wG_le B.gs.xs
  have e1 := rowsSize_of B.mem
  have e2 := gsSize_of B.gs
  have h2 : B.m.size = rowsSize (memOf B.mem) + gsSize (gsOf B.gs) + B.outs.xs.length := rfl
  unfold BBig at h
  refine ⟨by omega, ?_⟩
  have h3 : (B.gs.xs.map (fun x => x.m.size)).sum + B.gs.xs.length ≤ 4194304 := by omega
  have h4 : (B.gs.xs.map (fun x : GV => MG.size x.m)).sum = (B.gs.xs.map (fun x => x.m.size)).sum := rfl
  omega
theorem BV.markEnd_pos (B : BV) : 0 ≤ B.markEnd 1 := by unfold BV.markEnd BV.k2 BV.k1; omega
theorem BV.marked_val (B : BV) : (B.marked 1).val = B.val := by simp [BV.val, BV.marked, mksI_len, mksG_len, marksInt_len]
set_option linter.unusedSimpArgs false in
set_option linter.unusedVariables false in
set_option maxRecDepth 100000 in
set_option maxHeartbeats 4000000 in
theorem markB_H (B : BV) {W0 w : World} {L L' : List En} (H : Hp W0 w L) (t : Take L (.bare B) L') (Z : BBig B) : Calls Tryz.prog 10 #[B.val, .int .i64 1] w fun e w' => e = .returned (.int .i64 (B.markEnd 1)) ∧ Hp W0 w' (.bare (B.marked 1) :: L') := by
  have z1 := Z.mem
  have z2 := Z.gs
  have z3 := Z.outs
  have zg := Z.gsi
  obtain ⟨s1, s2⟩ := Z.sums
  obtain ⟨k1, hk1⟩ : ∃ k1, k1 = B.k1 1 := ⟨_, rfl⟩
  obtain ⟨k2, hk2⟩ : ∃ k2, k2 = B.k2 1 := ⟨_, rfl⟩
  have b1 : 0 ≤ k1 ∧ k1 ≤ 1000000000 := by rw [hk1]; unfold BV.k1; omega
  have b2 : 0 ≤ k2 ∧ k2 ≤ 1000000000 := by rw [hk2]; unfold BV.k2 BV.k1; omega
  obtain ⟨b11, b12⟩ := b1
  obtain ⟨b21, b22⟩ := b2
  have HK1 : Hid (1 + 1 * (((B.mem.xs.map (fun x => x.xs.length)).sum : Nat) : Int) = k1) := hk1.symm
  have HK2 : Hid (k1 + (((B.gs.xs.map wG).sum : Nat) : Int) = k2) := by show _ = _; rw [hk2, hk1]; rfl
  have HKE : Hid (B.markEnd 1 = k2 + 1 * (B.outs.xs.length : Int)) := by show _ = _; rw [hk2]; rfl
  clear hk1 hk2
  replace H := (H.take t).bparts
  clear t
  go_enter Tryz.func10, Tryz.ntmps10
  go_wp2_with (first
    | go_skip
    | ((with_reducible refine at_box ?_); first | (refine wpList_box_H rfl rfl H rfl (by first | exact CellsOf.agg | exact CellsOf.int | exact CellsOf.bool | exact CellsOf.slice | exact CellsOf.string | exact CellsOf.pointer | exact CellsOf.func) ?_; clear H; intro bB w H))
    | ((with_reducible refine at_alloc ?_); first | (refine wpList_alloc_H rfl rfl H ?_; clear H; intro b w H))
    | ((with_reducible refine at_load ?_); first | (refine wpList_load_H rfl rfl H rfl (by repeat (first | exact LoadAt.here rfl | apply LoadAt.there)) ?_) | (refine wpList_loads_H rfl rfl H rfl (by repeat (first | (apply LoadsAt.here; repeat (first | exact GetsAt.nil | apply GetsAt.here | apply GetsAt.there)) | apply LoadsAt.there)) ?_))
    | ((with_reducible refine at_store ?_); first | (refine wpList_store_H rfl rfl H rfl rfl (by repeat (first | (apply StoreAt.here; (first | exact CellsOf.agg | exact CellsOf.int | exact CellsOf.bool | exact CellsOf.slice | exact CellsOf.string | exact CellsOf.pointer | exact CellsOf.func); (repeat (first | exact SetsAt.nil | apply SetsAt.here | apply SetsAt.there)); exact rfl; exact rfl) | apply StoreAt.there)) ?_; clear H; intro w H))
    | (go_at_call 73; refine (markIS_H B.mem 1 H (by repeat (first | exact Take.head | apply Take.tail)) (by repeat (first | exact Take.head | apply Take.tail)) z1 s1 (by omega) (by omega)).mono ?_; clear H; rintro e w ⟨he, H⟩; rw [HK1.out] at he; subst he)
    | (go_at_call 74; refine (markGS_H B.gs k1 H (by repeat (first | exact Take.head | apply Take.tail)) (by repeat (first | exact Take.head | apply Take.tail)) z2 s2 zg b11 b12).mono ?_; clear H; rintro e w ⟨he, H⟩; rw [HK2.out] at he; subst he)
    | (go_at_call 17; refine (markIntS_any B.outs 0 k2 _ (H.get (e := .int B.outs) (by repeat (first | exact Take.head | apply Take.tail))) (by unfold big; exact z3) b21 (by omega)).mono ?_; rintro e w ⟨rfl, ho, ht⟩; replace H := Hp.swap_at (e := .int B.outs) (e' := .int ⟨B.outs.A, B.outs.c, marksInt k2 B.outs.xs.length⟩) H (by repeat (first | exact Take.head | apply Take.tail)) ht ho rfl; clear ho ht))
  go_ret
  refine ⟨by rw [HKE.out] <;> simp, ?_⟩
  have e : B.marked 1 = ⟨⟨B.mem.A, B.mem.c, mksI 1 B.mem.xs⟩, ⟨B.gs.A, B.gs.c, mksG k1 B.gs.xs⟩, ⟨B.outs.A, B.outs.c, marksInt k2 B.outs.xs.length⟩, B.pend⟩ := by
    have h1 : B.k1 1 = k1 := HK1.out
    have h2 : B.k2 1 = k2 := by show B.k1 1 + _ = k2; rw [h1]; exact HK2.out
    unfold BV.marked; rw [h1, h2]
  rw [e]
  replace H := H.take (e := .int ⟨B.outs.A, B.outs.c, marksInt k2 B.outs.xs.length⟩) (by repeat (first | exact Take.head | apply Take.tail))
  replace H := H.take (e := .many En.gst (mksG k1 B.gs.xs)) (by repeat (first | exact Take.head | apply Take.tail))
  replace H := H.take (e := .gsl ⟨B.gs.A, B.gs.c, mksG k1 B.gs.xs⟩) (by repeat (first | exact Take.head | apply Take.tail))
  replace H := H.take (e := .many En.int (mksI 1 B.mem.xs)) (by repeat (first | exact Take.head | apply Take.tail))
  replace H := H.take (e := .rows ⟨B.mem.A, B.mem.c, mksI 1 B.mem.xs⟩) (by repeat (first | exact Take.head | apply Take.tail))
  replace H := (H.take (e := .box bB 30 (barr B).toList) (by repeat (first | exact Take.head | apply Take.tail))).drop
  exact Hp.bare (b := ⟨⟨B.mem.A, B.mem.c, mksI 1 B.mem.xs⟩, ⟨B.gs.A, B.gs.c, mksG k1 B.gs.xs⟩, ⟨B.outs.A, B.outs.c, marksInt k2 B.outs.xs.length⟩, B.pend⟩) H
set_option linter.unusedSimpArgs false in
set_option linter.unusedVariables false in
set_option maxRecDepth 100000 in
set_option maxHeartbeats 4000000 in
theorem heldB_H (B : BV) {W0 w : World} {L L' : List En} (H : Hp W0 w L) (t : Take L (.bare (B.marked 1)) L') (Z : BBig B) : Calls Tryz.prog 11 #[B.val, .int .i64 1] w fun e w' => e = .returned (.int .i64 (B.markEnd 1)) ∧ Hp W0 w' L := by
  have z1 := Z.mem
  have z2 := Z.gs
  have z3 := Z.outs
  have zg := Z.gsi
  obtain ⟨s1, s2⟩ := Z.sums
  obtain ⟨k1, hk1⟩ : ∃ k1, k1 = B.k1 1 := ⟨_, rfl⟩
  obtain ⟨k2, hk2⟩ : ∃ k2, k2 = B.k2 1 := ⟨_, rfl⟩
  have b1 : 0 ≤ k1 ∧ k1 ≤ 1000000000 := by rw [hk1]; unfold BV.k1; omega
  have b2 : 0 ≤ k2 ∧ k2 ≤ 1000000000 := by rw [hk2]; unfold BV.k2 BV.k1; omega
  obtain ⟨b11, b12⟩ := b1
  obtain ⟨b21, b22⟩ := b2
  have HK1 : Hid (1 + 1 * (((B.mem.xs.map (fun x => x.xs.length)).sum : Nat) : Int) = k1) := hk1.symm
  have HK2 : Hid (k1 + (((B.gs.xs.map wG).sum : Nat) : Int) = k2) := by show _ = _; rw [hk2, hk1]; rfl
  have HKE : Hid (B.markEnd 1 = k2 + 1 * (B.outs.xs.length : Int)) := by show _ = _; rw [hk2]; rfl
  clear hk1 hk2
  have R := H.brd t
  have ev := B.marked_val
  obtain ⟨C, hC⟩ : ∃ C, C = B.marked 1 := ⟨_, rfl⟩
  have m1 : C.mem.xs = mksI 1 B.mem.xs := by rw [hC]; rfl
  have m2 : C.gs.xs = mksG k1 B.gs.xs := by rw [hC]; show mksG (B.k1 1) B.gs.xs = _; rw [show B.k1 1 = k1 from HK1.out]
  have m3 : C.outs.xs = marksInt k2 C.outs.xs.length := by
    rw [hC]; show marksInt (B.k2 1) B.outs.xs.length = marksInt k2 (marksInt (B.k2 1) B.outs.xs.length).length
    rw [marksInt_len, show B.k2 1 = k2 from (by show B.k1 1 + _ = k2; rw [show B.k1 1 = k1 from HK1.out]; exact HK2.out)]
  have c1 : C.mem.xs.length ≤ 4194304 := by rw [m1, mksI_len]; exact z1
  have c2 : C.gs.xs.length ≤ 4194304 := by rw [m2, mksG_len]; exact z2
  have c3 : C.outs.xs.length ≤ 4194304 := by rw [hC]; show (marksInt _ _).length ≤ _; rw [marksInt_len]; exact z3
  have HE3 : Hid ((C.outs.xs.length : Int) = B.outs.xs.length) := by show _ = _; rw [hC]; show (((marksInt _ _).length : Nat) : Int) = _; rw [marksInt_len]
  rw [← hC] at R ev
  rw [← ev, HKE.out]
  have M1 := Lib.hid m1; have M2 := Lib.hid m2; have M3 := Lib.hid m3
  clear m1 m2 m3 ev hC
  refine Calls.mono (R := fun e w' => e = .returned (.int .i64 (k2 + 1 * (B.outs.xs.length : Int))) ∧ Hp w w' []) ?_ fun _ _ ⟨he, K⟩ => ⟨he, H.add_all K⟩
  clear H t
  obtain ⟨W1, hW1⟩ : ∃ W1, W1 = w := ⟨_, rfl⟩
  have H := Hp.start w
  go_enter Tryz.func11, Tryz.ntmps11
  go_wp2_with (first
    | go_skip
    | ((with_reducible refine at_box ?_); first | (refine wpList_box_H rfl rfl H rfl (by first | exact CellsOf.agg | exact CellsOf.int | exact CellsOf.bool | exact CellsOf.slice | exact CellsOf.string | exact CellsOf.pointer | exact CellsOf.func) ?_; clear H; intro b w H))
    | ((with_reducible refine at_alloc ?_); first | (refine wpList_alloc_H rfl rfl H ?_; clear H; intro b w H))
    | ((with_reducible refine at_load ?_); first | (refine wpList_load_H rfl rfl H rfl (by repeat (first | exact LoadAt.here rfl | apply LoadAt.there)) ?_) | (refine wpList_loads_H rfl rfl H rfl (by repeat (first | (apply LoadsAt.here; repeat (first | exact GetsAt.nil | apply GetsAt.here | apply GetsAt.there)) | apply LoadsAt.there)) ?_))
    | ((with_reducible refine at_store ?_); first | (refine wpList_store_H rfl rfl H rfl rfl (by repeat (first | (apply StoreAt.here; (first | exact CellsOf.agg | exact CellsOf.int | exact CellsOf.bool | exact CellsOf.slice | exact CellsOf.string | exact CellsOf.pointer | exact CellsOf.func); (repeat (first | exact SetsAt.nil | apply SetsAt.here | apply SetsAt.there)); exact rfl; exact rfl) | apply StoreAt.there)) ?_; clear H; intro w H))
    | (go_at_call 75; refine (heldIS_c C.mem B.mem.xs 1 _ (R.mem.at_ H) (fun x hx => (R.memi x hx).at_ H) M1.out c1 s1 (by omega) (by omega)).mono ?_; rintro e w ⟨he, K⟩; rw [HK1.out] at he; subst he; replace H := H.add_all K; clear K)
    | (go_at_call 76; refine (heldGS_c C.gs B.gs.xs k1 _ (R.gs.at_ H) (fun x hx => (R.gsi x hx).at_ H) M2.out c2 s2 zg b11 b12).mono ?_; rintro e w ⟨he, K⟩; rw [HK2.out] at he; subst he; replace H := H.add_all K; clear K)
    | (go_at_call 77; refine (heldIntS_any C.outs k2 _ (R.outs.at_ H) M3.out (by unfold big; exact c3) b21 (by omega)).mono ?_; rintro e w ⟨he, hb⟩; rw [HE3.out] at he; subst he; replace H := H.still hb; clear hb))
  go_ret
  exact ⟨ret_int (by omega), H.pick .nil⟩
end Go.Proofs.YthpoieoaaikpmaaGreat
