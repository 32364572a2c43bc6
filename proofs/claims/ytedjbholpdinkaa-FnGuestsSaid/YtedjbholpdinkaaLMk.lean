/- Contracts of the law's own helpers on flat slices: mark and held at instructions, slots and integers. -/
import Derived.Test.YtedjbholpdinkaaLSl
namespace Go.Proofs.Ytedjbholpdinkaa
open Go.RowKit
attribute [local go_sem ↓] Go.wp_at_zero Go.wp_at_succ

def marksIns (k : Int) (n : Nat) : List Ins := (List.range n).map fun (i : Nat) => ⟨k + 2 * i, k + 2 * i + 1⟩
theorem marksIns_len (k : Int) (n : Nat) : (marksIns k n).length = n := by simp [marksIns]
theorem marksIns_get (k : Int) (n i : Nat) (h : i < n) : (marksIns k n)[i]? = some ⟨k + 2 * i, k + 2 * i + 1⟩ := by simp [marksIns, h]

set_option maxHeartbeats 1000000 in
theorem markInsS_any (s : Sl Ins) (lo : Nat) (k0 : Int) (w : World) (hs : Own Ins.cells 2 47 w lo s) (hl : s.xs.length ≤ big) (h0 : 0 ≤ k0) (h1 : k0 ≤ 1000000000000) :
    Calls Try.prog 43 #[.slice s.A s.xs.length s.c, .int .i64 k0] w fun e w' => e = .returned (.int .i64 (k0 + 2 * (s.xs.length : Int))) ∧ Own Ins.cells 2 47 w' lo ⟨s.A, s.c, marksIns k0 s.xs.length⟩ ∧ Touch s.blk.toList w w' := by
  by_cases hA : ∃ a, s.A = some a
  · obtain ⟨g, cur0, hg, hlo, hlt0, hh, hn, hc, hcs0, _⟩ := hs.form hA
    have hF0 : Filled Ins.cells 2 47 w g s.c (marksIns k0 s.xs.length) 0 := Filled.start' hh hcs0
    have HB : Hid (s.blk.toList = [g]) := by show s.blk.toList = [g]; simp [Sl.blk, hg]
    obtain ⟨A, c, xs⟩ := s
    simp only at hg hn hc hF0 hl HB ⊢
    subst hg
    unfold big at hl
    clear hA hs hh hcs0
    go_enter Try.func43, Try.ntmps43
    go_wp2
    go_loopw [1, 5] (fun k i' wr => ∃ i : Nat, i ≤ xs.length ∧ i' = .int .i64 i ∧ k = .int .i64 (k0 + 2 * i) ∧ Touch [g] w wr ∧ Filled Ins.cells 2 47 wr g c (marksIns k0 xs.length) i) (fun _ i _ => xs.length - (intOf i).toNat)
    case atStart => exact ⟨0, Nat.zero_le _, rfl, by go_num, Touch.refl _ _, hF0⟩
    case round =>
     obtain ⟨i, hi, rfl, rfl, hT, hF⟩ := hrel
     clear hF0
     by_cases hlt : i < xs.length
     · have HX := Lib.hid (marksIns_get k0 xs.length i hlt)
       obtain ⟨cur, Z, hR, hc1', hc2'⟩ := hF
       have hcs : i * 2 + 2 ≤ cur.size := by
         rw [← Array.length_toList, hc1', List.length_append, flat_len ins_len, List.length_take, hc2', marksIns_len, Nat.min_eq_left hi]; omega
       have H1 := Lib.hid hc1'; have H2 := Lib.hid hc2'; clear hc1' hc2'
       have hz1 : i * 2 + 1 ≤ cur.toList.length := by simp; omega
       have hz2 := upd_size (l := cur.toList) (o := i * 2) (Value.int .i64 (k0 + 2 * i)) hz1
       have hs2 : i * 2 + 1 + 1 ≤ (cur.toList.take (i * 2) ++ [Value.int .i64 (k0 + 2 * i)] ++ cur.toList.drop (i * 2 + 1)).toArray.size := by rw [hz2]; simp; omega
       have HZ := Lib.hid hz2; clear hz2 hz1
       go_wp2_with (first | (refine wpList_store_row rfl 3 _ _ rfl g (i * 2) 47 cur (.int .i64 (k0 + 2 * i)) rfl rfl hR (Nat.le_of_succ_le hcs) (by kernel_rfl) (by simp [Value.cells, Value.oneCell']) ?_; intro w1 R1 O1; clear hR) | (refine wpList_store_row rfl 3 _ _ rfl g (i * 2 + 1) 47 (cur.toList.take (i * 2) ++ [Value.int .i64 (k0 + 2 * i)] ++ cur.toList.drop (i * 2 + 1)).toArray (.int .i64 (k0 + 2 * i + 1)) rfl rfl R1 hs2 (by kernel_rfl) (by simp [Value.cells, Value.oneCell']) ?_; intro w2 R2 O2; clear R1))
       go_roundw
       case rel => exact ⟨i + 1, by omega, by go_num, by go_num, ((hT.trans (touch_only O1)).trans (touch_only O2)), Filled.next ins_len (by rw [marksIns_len]; exact hlt) H1.out H2.out HX.out (new := [.int .i64 (k0 + 2 * i), .int .i64 (k0 + 2 * i + 1)]) rfl (by rw [← two_stores _ _ (by simpa using hcs)]; exact R2)⟩
       case measure => simp [intOf]; omega
     · have hin : i = xs.length := by omega
       subst hin
       go_wp2
       go_ret
       refine ⟨ret_int (by omega), ?_, by rw [HB.out]; exact hT⟩
       have hF' : Filled Ins.cells 2 47 wr g c (marksIns k0 xs.length) (marksIns k0 xs.length).length := by rw [marksIns_len]; exact hF
       exact hF'.own ins_len hlo (by rw [marksIns_len]; exact hn) hc
  · have hA0 : s.A = none := by cases h : s.A with | none => rfl | some a => exact absurd ⟨a, h⟩ hA
    obtain ⟨A, c, xs⟩ := s
    simp only at hA0 hl hs ⊢
    subst hA0
    have hx : xs = [] ∧ c = 0 := by
      rcases hs.2 with ⟨h, h0⟩ | ⟨g, cap, cur, h, _⟩
      · simp only at h h0
        injection h with _ _ h
        exact ⟨List.eq_nil_of_length_eq_zero h0, h⟩
      · simp only at h; injection h with h; cases h
    obtain ⟨rfl, rfl⟩ := hx
    clear hs hA hl
    go_enter Try.func43, Try.ntmps43
    go_wp2
    refine wp_loop_rounds 1 ?_
    rw [rounds_succ]
    go_wp2
    go_ret
    exact ⟨ret_int (by simp), (by show Own _ _ _ _ _ (⟨none, 0, []⟩ : Sl Ins); exact Own.none_ _), Touch.refl _ _⟩

set_option maxHeartbeats 1000000 in
theorem heldInsS_any (s : Sl Ins) (k0 : Int) (w : World) (hs : Rd Ins.cells 2 w s) (hm : s.xs = marksIns k0 s.xs.length) (hl : s.xs.length ≤ big) (h0 : 0 ≤ k0) (h1 : k0 ≤ 1000000000000) :
    Calls Try.prog 113 #[.slice s.A s.xs.length s.c, .int .i64 k0] w fun e w' => e = .returned (.int .i64 (k0 + 2 * (s.xs.length : Int))) ∧ Below w.heap.size w w' := by
  obtain ⟨A, c, xs⟩ := s
  simp only at hm hl ⊢
  unfold big at hl
  have HS := Lib.hid hs; have HM := Lib.hid hm; clear hs hm
  go_enter Try.func113, Try.ntmps113
  go_wp2
  go_loopw [1, 5] (fun k i' wr => ∃ i : Nat, i ≤ xs.length ∧ i' = .int .i64 i ∧ k = .int .i64 (k0 + 2 * i) ∧ Below w.heap.size w wr) (fun _ i _ => xs.length - (intOf i).toNat)
  case atStart => exact ⟨0, Nat.zero_le _, rfl, by go_num, Below.refl _ _⟩
  case round =>
    obtain ⟨i, hi, rfl, rfl, hbw⟩ := hrel
    by_cases hlt : i < xs.length
    · obtain ⟨x, b, o, hA, hb, hx, hx0, hx1⟩ := HS.out.ins hlt
      simp only at hA hx
      subst hA
      have hv := marksIns_get k0 xs.length i hlt
      rw [← HM.out, hx] at hv
      injection hv with hv
      subst hv
      have hx0' := (bcell hbw).1 _ (o + i * 2) hb; rw [hx0] at hx0'
      have hx1' := (bcell hbw).1 _ (o + i * 2 + 1) hb; rw [hx1] at hx1'
      clear hx0 hx1 hx
      go_wp2
      go_roundw
      case rel => exact ⟨i + 1, by omega, by go_num, by go_num, hbw⟩
      case measure => simp [intOf]; omega
    · have hin : i = xs.length := by omega
      subst hin
      go_wp2
      go_ret
      exact ⟨ret_int (by omega), hbw⟩

def marksSlot (k : Int) (n : Nat) : List Slot := (List.range n).map fun (i : Nat) => ⟨k + 2 * i, k + 2 * i + 1⟩
theorem marksSlot_len (k : Int) (n : Nat) : (marksSlot k n).length = n := by simp [marksSlot]
theorem marksSlot_get (k : Int) (n i : Nat) (h : i < n) : (marksSlot k n)[i]? = some ⟨k + 2 * i, k + 2 * i + 1⟩ := by simp [marksSlot, h]

set_option maxHeartbeats 1000000 in
theorem markSlotS_any (s : Sl Slot) (lo : Nat) (k0 : Int) (w : World) (hs : Own Slot.cells 2 105 w lo s) (hl : s.xs.length ≤ big) (h0 : 0 ≤ k0) (h1 : k0 ≤ 1000000000000) :
    Calls Try.prog 111 #[.slice s.A s.xs.length s.c, .int .i64 k0] w fun e w' => e = .returned (.int .i64 (k0 + 2 * (s.xs.length : Int))) ∧ Own Slot.cells 2 105 w' lo ⟨s.A, s.c, marksSlot k0 s.xs.length⟩ ∧ Touch s.blk.toList w w' := by
  by_cases hA : ∃ a, s.A = some a
  · obtain ⟨g, cur0, hg, hlo, hlt0, hh, hn, hc, hcs0, _⟩ := hs.form hA
    have hF0 : Filled Slot.cells 2 105 w g s.c (marksSlot k0 s.xs.length) 0 := Filled.start' hh hcs0
    have HB : Hid (s.blk.toList = [g]) := by show s.blk.toList = [g]; simp [Sl.blk, hg]
    obtain ⟨A, c, xs⟩ := s
    simp only at hg hn hc hF0 hl HB ⊢
    subst hg
    unfold big at hl
    clear hA hs hh hcs0
    go_enter Try.func111, Try.ntmps111
    go_wp2
    go_loopw [1, 5] (fun k i' wr => ∃ i : Nat, i ≤ xs.length ∧ i' = .int .i64 i ∧ k = .int .i64 (k0 + 2 * i) ∧ Touch [g] w wr ∧ Filled Slot.cells 2 105 wr g c (marksSlot k0 xs.length) i) (fun _ i _ => xs.length - (intOf i).toNat)
    case atStart => exact ⟨0, Nat.zero_le _, rfl, by go_num, Touch.refl _ _, hF0⟩
    case round =>
     obtain ⟨i, hi, rfl, rfl, hT, hF⟩ := hrel
     clear hF0
     by_cases hlt : i < xs.length
     · have HX := Lib.hid (marksSlot_get k0 xs.length i hlt)
       obtain ⟨cur, Z, hR, hc1', hc2'⟩ := hF
       have hcs : i * 2 + 2 ≤ cur.size := by
         rw [← Array.length_toList, hc1', List.length_append, flat_len slot_len, List.length_take, hc2', marksSlot_len, Nat.min_eq_left hi]; omega
       have H1 := Lib.hid hc1'; have H2 := Lib.hid hc2'; clear hc1' hc2'
       have hz1 : i * 2 + 1 ≤ cur.toList.length := by simp; omega
       have hz2 := upd_size (l := cur.toList) (o := i * 2) (Value.int .i64 (k0 + 2 * i)) hz1
       have hs2 : i * 2 + 1 + 1 ≤ (cur.toList.take (i * 2) ++ [Value.int .i64 (k0 + 2 * i)] ++ cur.toList.drop (i * 2 + 1)).toArray.size := by rw [hz2]; simp; omega
       have HZ := Lib.hid hz2; clear hz2 hz1
       go_wp2_with (first | (refine wpList_store_row rfl 3 _ _ rfl g (i * 2) 105 cur (.int .i64 (k0 + 2 * i)) rfl rfl hR (Nat.le_of_succ_le hcs) (by kernel_rfl) (by simp [Value.cells, Value.oneCell']) ?_; intro w1 R1 O1; clear hR) | (refine wpList_store_row rfl 3 _ _ rfl g (i * 2 + 1) 105 (cur.toList.take (i * 2) ++ [Value.int .i64 (k0 + 2 * i)] ++ cur.toList.drop (i * 2 + 1)).toArray (.int .i64 (k0 + 2 * i + 1)) rfl rfl R1 hs2 (by kernel_rfl) (by simp [Value.cells, Value.oneCell']) ?_; intro w2 R2 O2; clear R1))
       go_roundw
       case rel => exact ⟨i + 1, by omega, by go_num, by go_num, ((hT.trans (touch_only O1)).trans (touch_only O2)), Filled.next slot_len (by rw [marksSlot_len]; exact hlt) H1.out H2.out HX.out (new := [.int .i64 (k0 + 2 * i), .int .i64 (k0 + 2 * i + 1)]) rfl (by rw [← two_stores _ _ (by simpa using hcs)]; exact R2)⟩
       case measure => simp [intOf]; omega
     · have hin : i = xs.length := by omega
       subst hin
       go_wp2
       go_ret
       refine ⟨ret_int (by omega), ?_, by rw [HB.out]; exact hT⟩
       have hF' : Filled Slot.cells 2 105 wr g c (marksSlot k0 xs.length) (marksSlot k0 xs.length).length := by rw [marksSlot_len]; exact hF
       exact hF'.own slot_len hlo (by rw [marksSlot_len]; exact hn) hc
  · have hA0 : s.A = none := by cases h : s.A with | none => rfl | some a => exact absurd ⟨a, h⟩ hA
    obtain ⟨A, c, xs⟩ := s
    simp only at hA0 hl hs ⊢
    subst hA0
    have hx : xs = [] ∧ c = 0 := by
      rcases hs.2 with ⟨h, h0⟩ | ⟨g, cap, cur, h, _⟩
      · simp only at h h0
        injection h with _ _ h
        exact ⟨List.eq_nil_of_length_eq_zero h0, h⟩
      · simp only at h; injection h with h; cases h
    obtain ⟨rfl, rfl⟩ := hx
    clear hs hA hl
    go_enter Try.func111, Try.ntmps111
    go_wp2
    refine wp_loop_rounds 1 ?_
    rw [rounds_succ]
    go_wp2
    go_ret
    exact ⟨ret_int (by simp), (by show Own _ _ _ _ _ (⟨none, 0, []⟩ : Sl Slot); exact Own.none_ _), Touch.refl _ _⟩

set_option maxHeartbeats 1000000 in
theorem heldSlotS_any (s : Sl Slot) (k0 : Int) (w : World) (hs : Rd Slot.cells 2 w s) (hm : s.xs = marksSlot k0 s.xs.length) (hl : s.xs.length ≤ big) (h0 : 0 ≤ k0) (h1 : k0 ≤ 1000000000000) :
    Calls Try.prog 114 #[.slice s.A s.xs.length s.c, .int .i64 k0] w fun e w' => e = .returned (.int .i64 (k0 + 2 * (s.xs.length : Int))) ∧ Below w.heap.size w w' := by
  obtain ⟨A, c, xs⟩ := s
  simp only at hm hl ⊢
  unfold big at hl
  have HS := Lib.hid hs; have HM := Lib.hid hm; clear hs hm
  go_enter Try.func114, Try.ntmps114
  go_wp2
  go_loopw [1, 5] (fun k i' wr => ∃ i : Nat, i ≤ xs.length ∧ i' = .int .i64 i ∧ k = .int .i64 (k0 + 2 * i) ∧ Below w.heap.size w wr) (fun _ i _ => xs.length - (intOf i).toNat)
  case atStart => exact ⟨0, Nat.zero_le _, rfl, by go_num, Below.refl _ _⟩
  case round =>
    obtain ⟨i, hi, rfl, rfl, hbw⟩ := hrel
    by_cases hlt : i < xs.length
    · obtain ⟨x, b, o, hA, hb, hx, hx0, hx1⟩ := HS.out.slot hlt
      simp only at hA hx
      subst hA
      have hv := marksSlot_get k0 xs.length i hlt
      rw [← HM.out, hx] at hv
      injection hv with hv
      subst hv
      have hx0' := (bcell hbw).1 _ (o + i * 2) hb; rw [hx0] at hx0'
      have hx1' := (bcell hbw).1 _ (o + i * 2 + 1) hb; rw [hx1] at hx1'
      clear hx0 hx1 hx
      go_wp2
      go_roundw
      case rel => exact ⟨i + 1, by omega, by go_num, by go_num, hbw⟩
      case measure => simp [intOf]; omega
    · have hin : i = xs.length := by omega
      subst hin
      go_wp2
      go_ret
      exact ⟨ret_int (by omega), hbw⟩

def marksInt (k : Int) (n : Nat) : List Int := (List.range n).map fun (i : Nat) => k + i
theorem marksInt_len (k : Int) (n : Nat) : (marksInt k n).length = n := by simp [marksInt]
theorem marksInt_get (k : Int) (n i : Nat) (h : i < n) : (marksInt k n)[i]? = some (k + i) := by simp [marksInt, h]

set_option maxHeartbeats 1000000 in
theorem markIntS_any (s : Sl Int) (lo : Nat) (k0 : Int) (w : World) (hs : Own icell 1 3 w lo s) (hl : s.xs.length ≤ big) (h0 : 0 ≤ k0) (h1 : k0 ≤ 1000000000000) :
    Calls Try.prog 112 #[.slice s.A s.xs.length s.c, .int .i64 k0] w fun e w' => e = .returned (.int .i64 (k0 + 1 * (s.xs.length : Int))) ∧ Own icell 1 3 w' lo ⟨s.A, s.c, marksInt k0 s.xs.length⟩ ∧ Touch s.blk.toList w w' := by
  by_cases hA : ∃ a, s.A = some a
  · obtain ⟨g, cur0, hg, hlo, hlt0, hh, hn, hc, hcs0, _⟩ := hs.form hA
    have hF0 : Filled icell 1 3 w g s.c (marksInt k0 s.xs.length) 0 := Filled.start' hh hcs0
    have HB : Hid (s.blk.toList = [g]) := by show s.blk.toList = [g]; simp [Sl.blk, hg]
    obtain ⟨A, c, xs⟩ := s
    simp only at hg hn hc hF0 hl HB ⊢
    subst hg
    unfold big at hl
    clear hA hs hh hcs0
    go_enter Try.func112, Try.ntmps112
    go_wp2
    go_loopw [1, 5] (fun k i' wr => ∃ i : Nat, i ≤ xs.length ∧ i' = .int .i64 i ∧ k = .int .i64 (k0 + i) ∧ Touch [g] w wr ∧ Filled icell 1 3 wr g c (marksInt k0 xs.length) i) (fun _ i _ => xs.length - (intOf i).toNat)
    case atStart => exact ⟨0, Nat.zero_le _, rfl, by go_num, Touch.refl _ _, hF0⟩
    case round =>
     obtain ⟨i, hi, rfl, rfl, hT, hF⟩ := hrel
     clear hF0
     by_cases hlt : i < xs.length
     · have HX := Lib.hid (marksInt_get k0 xs.length i hlt)
       obtain ⟨cur, Z, hR, hc1', hc2'⟩ := hF
       have hcs : i + 1 ≤ cur.size := by
         rw [← Array.length_toList, hc1', List.length_append, flat_len int_len, List.length_take, hc2', marksInt_len, Nat.min_eq_left hi]; omega
       have H1 := Lib.hid hc1'; have H2 := Lib.hid hc2'; clear hc1' hc2'
       go_wp2_with (refine wpList_store_row rfl 3 _ _ rfl g i 3 cur (.int .i64 (k0 + i)) rfl rfl hR hcs (by kernel_rfl) (by simp [Value.cells, Value.oneCell']) ?_; intro w2 R2 O2)
       go_roundw
       case rel => exact ⟨i + 1, by omega, by go_num, by go_num, (hT.trans (touch_only O2)), Filled.next int_len (by rw [marksInt_len]; exact hlt) H1.out H2.out HX.out (new := [.int .i64 (k0 + i)]) rfl (by rw [Nat.mul_one]; exact R2)⟩
       case measure => simp [intOf]; omega
     · have hin : i = xs.length := by omega
       subst hin
       go_wp2
       go_ret
       refine ⟨ret_int (by omega), ?_, by rw [HB.out]; exact hT⟩
       have hF' : Filled icell 1 3 wr g c (marksInt k0 xs.length) (marksInt k0 xs.length).length := by rw [marksInt_len]; exact hF
       exact hF'.own int_len hlo (by rw [marksInt_len]; exact hn) hc
  · have hA0 : s.A = none := by cases h : s.A with | none => rfl | some a => exact absurd ⟨a, h⟩ hA
    obtain ⟨A, c, xs⟩ := s
    simp only at hA0 hl hs ⊢
    subst hA0
    have hx : xs = [] ∧ c = 0 := by
      rcases hs.2 with ⟨h, h0⟩ | ⟨g, cap, cur, h, _⟩
      · simp only at h h0
        injection h with _ _ h
        exact ⟨List.eq_nil_of_length_eq_zero h0, h⟩
      · simp only at h; injection h with h; cases h
    obtain ⟨rfl, rfl⟩ := hx
    clear hs hA hl
    go_enter Try.func112, Try.ntmps112
    go_wp2
    refine wp_loop_rounds 1 ?_
    rw [rounds_succ]
    go_wp2
    go_ret
    exact ⟨ret_int (by simp), (by show Own _ _ _ _ _ (⟨none, 0, []⟩ : Sl Int); exact Own.none_ _), Touch.refl _ _⟩

set_option maxHeartbeats 1000000 in
theorem heldIntS_any (s : Sl Int) (k0 : Int) (w : World) (hs : Rd icell 1 w s) (hm : s.xs = marksInt k0 s.xs.length) (hl : s.xs.length ≤ big) (h0 : 0 ≤ k0) (h1 : k0 ≤ 1000000000000) :
    Calls Try.prog 115 #[.slice s.A s.xs.length s.c, .int .i64 k0] w fun e w' => e = .returned (.int .i64 (k0 + 1 * (s.xs.length : Int))) ∧ Below w.heap.size w w' := by
  obtain ⟨A, c, xs⟩ := s
  simp only at hm hl ⊢
  unfold big at hl
  have HS := Lib.hid hs; have HM := Lib.hid hm; clear hs hm
  go_enter Try.func115, Try.ntmps115
  go_wp2
  go_loopw [1, 5] (fun k i' wr => ∃ i : Nat, i ≤ xs.length ∧ i' = .int .i64 i ∧ k = .int .i64 (k0 + i) ∧ Below w.heap.size w wr) (fun _ i _ => xs.length - (intOf i).toNat)
  case atStart => exact ⟨0, Nat.zero_le _, rfl, by go_num, Below.refl _ _⟩
  case round =>
    obtain ⟨i, hi, rfl, rfl, hbw⟩ := hrel
    by_cases hlt : i < xs.length
    · obtain ⟨x, b, o, hA, hb, hx, hx0⟩ := HS.out.int hlt
      simp only at hA hx
      subst hA
      have hv := marksInt_get k0 xs.length i hlt
      rw [← HM.out, hx] at hv
      injection hv with hv
      subst hv
      have hx0' := (bcell hbw).1 _ (o + i) hb; rw [hx0] at hx0'
      clear hx0 hx
      go_wp2
      go_roundw
      case rel => exact ⟨i + 1, by omega, by go_num, by go_num, hbw⟩
      case measure => simp [intOf]; omega
    · have hin : i = xs.length := by omega
      subst hin
      go_wp2
      go_ret
      exact ⟨ret_int (by omega), hbw⟩
end Go.Proofs.Ytedjbholpdinkaa
