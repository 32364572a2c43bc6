/- Contracts of the law's own helpers on flat slices: to, eq, mark, held, sz at instructions, slots and integers. -/
import Derived.Test.YtedjbholpdinkaaCopy
import Derived.Test.YtedjbholpdinkaaIrq
import Derived.Deep.RegionHeld3
import Derived.Deep.DrawnRows
namespace Go.Proofs.Ytedjbholpdinkaa
open Go.RowKit
attribute [local go_sem ↓] Go.wp_at_zero Go.wp_at_succ
theorem toIns_any (x : Ins) (w : World) : Calls Try.prog 109 #[x.val] w fun e w' => e = .returned x.val ∧ Below w.heap.size w w' := by
  go_enter Try.func109, Try.ntmps109
  go_wp2
  refine bodyPost_ret (v := x.val) (by simp [results, Try.results109, go_sem]) rfl ⟨rfl, ?_⟩
  repeat (first | exact Below.refl _ _ | refine Below.setCell ?_ (by (try simp) <;> omega) _ | refine Below.alloc ?_ (by (try simp) <;> omega) _)
theorem eqIns_any (x y : Ins) (w : World) : Calls Try.prog 110 #[x.val, y.val] w fun e w' => e = .returned (.bool (x == y)) ∧ Below w.heap.size w w' := by
  go_enter Try.func110, Try.ntmps110
  go_wp2
  all_goals (go_ret; refine ⟨ret_bool ?_, ((Below.refl _ _).alloc (by simp) _).alloc (by simp) _⟩)
  all_goals (obtain ⟨a, b⟩ := x; obtain ⟨c, d⟩ := y; simp_all)
theorem toSlot_any (x : Slot) (w : World) : Calls Try.prog 143 #[x.val] w fun e w' => e = .returned x.val ∧ Below w.heap.size w w' := by
  go_enter Try.func143, Try.ntmps143
  go_wp2
  refine bodyPost_ret (v := x.val) (by simp [results, Try.results143, go_sem]) rfl ⟨rfl, ?_⟩
  repeat (first | exact Below.refl _ _ | refine Below.setCell ?_ (by (try simp) <;> omega) _ | refine Below.alloc ?_ (by (try simp) <;> omega) _)
theorem eqSlot_any (x y : Slot) (w : World) : Calls Try.prog 146 #[x.val, y.val] w fun e w' => e = .returned (.bool (x == y)) ∧ Below w.heap.size w w' := by
  go_enter Try.func146, Try.ntmps146
  go_wp2
  all_goals (go_ret; refine ⟨ret_bool ?_, ((Below.refl _ _).alloc (by simp) _).alloc (by simp) _⟩)
  all_goals (obtain ⟨a, b⟩ := x; obtain ⟨c, d⟩ := y; simp_all)

set_option maxHeartbeats 1000000 in
theorem toInsS_any (s : Sl Ins) (w : World) (hs : Rd Ins.cells 2 w s) (hl : s.xs.length ≤ big) :
    Calls Try.prog 41 #[.slice s.A s.xs.length s.c] w fun e w' => ∃ d : Sl Ins, e = .returned d.val ∧ d.xs = s.xs ∧ Own Ins.cells 2 47 w' w.heap.size d ∧ Below w.heap.size w w' := by
  obtain ⟨A, c, xs⟩ := s
  simp only at hl ⊢
  unfold big at hl
  have HS := Lib.hid hs; clear hs
  obtain ⟨i, hi, hz0, hz1, hz2⟩ := info_parts info_ins
  have hmk := run_make_rowN (P := Try.prog) 26 47 i _ Try.underlying26 hi hz0 .i64 .i64 xs.length xs.length (Nat.le_refl _) (by rw [hz2]; omega) (by omega)
  rw [hz1] at hmk
  clear hi hz0 hz1 hz2
  go_enter Try.func41, Try.ntmps41
  go_wp2
  clear hmk
  go_loopw [4] (fun i wr => ∃ k : Nat, k ≤ xs.length ∧ i = .int .i64 k ∧ Below w.heap.size w wr ∧ Filled Ins.cells 2 47 wr w.heap.size xs.length xs k) (fun i _ => xs.length - (intOf i).toNat)
  case atStart => exact ⟨0, Nat.zero_le _, rfl, (Below.refl _ _).alloc (Nat.le_refl _) _, Filled.start (Rw.new _ _ _)⟩
  case round =>
    obtain ⟨k, hk, rfl, hbw, hF⟩ := hrel
    by_cases hlt : k < xs.length
    · obtain ⟨x, b, o, hA, hb, hx, hc0, hc1⟩ := HS.out.ins hlt
      simp only at hA hx
      subst hA
      have hc0' := (bcell hbw).1 _ (o + k * 2) hb; rw [hc0] at hc0'
      have hc1' := (bcell hbw).1 _ (o + k * 2 + 1) hb; rw [hc1] at hc1'
      clear hc0 hc1
      obtain ⟨cur, Z, hR, hc1', hc2'⟩ := hF
      have hcs : k * 2 + 2 ≤ cur.size := by
        rw [← Array.length_toList, hc1', List.length_append, flat_len ins_len, List.length_take, hc2', Nat.min_eq_left hk]; omega
      have HX := Lib.hid hx; clear hx
      have H1 := Lib.hid hc1'; have H2 := Lib.hid hc2'; clear hc1' hc2'
      go_wp2_with (first | (go_at_call 109; refine (toIns_any x _).mono ?_; rintro e w1 ⟨rfl, hb1⟩; have R1 := hR.below hb1 (Nat.le_refl _)) | (refine wpList_store_row rfl 47 _ _ rfl w.heap.size (k * 2) 47 cur x.val rfl rfl R1 hcs (by kernel_rfl) (eIns.hone x) ?_; intro w2 R2 O2))
      go_roundw
      case rel => exact ⟨k + 1, by omega, by go_num, only_below (hbw.trans (hb1.mono hbw.size)) O2 (Nat.le_refl _), Filled.next ins_len hlt H1.out H2.out HX.out (new := Ins.cells x) rfl R2⟩
      case measure => simp [intOf]; omega
    · have hkn : k = xs.length := by omega
      subst hkn
      go_wp2
      go_ret
      exact ⟨⟨some ⟨w.heap.size, 0, none⟩, xs.length, xs⟩, rfl, rfl, hF.own ins_len (Nat.le_refl _) (Nat.le_refl _) (by unfold maxLen; omega), hbw⟩

set_option maxHeartbeats 1000000 in
theorem toSlotS_any (s : Sl Slot) (w : World) (hs : Rd Slot.cells 2 w s) (hl : s.xs.length ≤ big) :
    Calls Try.prog 98 #[.slice s.A s.xs.length s.c] w fun e w' => ∃ d : Sl Slot, e = .returned d.val ∧ d.xs = s.xs ∧ Own Slot.cells 2 105 w' w.heap.size d ∧ Below w.heap.size w w' := by
  obtain ⟨A, c, xs⟩ := s
  simp only at hl ⊢
  unfold big at hl
  have HS := Lib.hid hs; clear hs
  obtain ⟨i, hi, hz0, hz1, hz2⟩ := info_parts info_slot
  have hmk := run_make_rowN (P := Try.prog) 27 105 i _ Try.underlying27 hi hz0 .i64 .i64 xs.length xs.length (Nat.le_refl _) (by rw [hz2]; omega) (by omega)
  rw [hz1] at hmk
  clear hi hz0 hz1 hz2
  go_enter Try.func98, Try.ntmps98
  go_wp2
  clear hmk
  go_loopw [4] (fun i wr => ∃ k : Nat, k ≤ xs.length ∧ i = .int .i64 k ∧ Below w.heap.size w wr ∧ Filled Slot.cells 2 105 wr w.heap.size xs.length xs k) (fun i _ => xs.length - (intOf i).toNat)
  case atStart => exact ⟨0, Nat.zero_le _, rfl, (Below.refl _ _).alloc (Nat.le_refl _) _, Filled.start (Rw.new _ _ _)⟩
  case round =>
    obtain ⟨k, hk, rfl, hbw, hF⟩ := hrel
    by_cases hlt : k < xs.length
    · obtain ⟨x, b, o, hA, hb, hx, hc0, hc1⟩ := HS.out.slot hlt
      simp only at hA hx
      subst hA
      have hc0' := (bcell hbw).1 _ (o + k * 2) hb; rw [hc0] at hc0'
      have hc1' := (bcell hbw).1 _ (o + k * 2 + 1) hb; rw [hc1] at hc1'
      clear hc0 hc1
      obtain ⟨cur, Z, hR, hc1', hc2'⟩ := hF
      have hcs : k * 2 + 2 ≤ cur.size := by
        rw [← Array.length_toList, hc1', List.length_append, flat_len slot_len, List.length_take, hc2', Nat.min_eq_left hk]; omega
      have HX := Lib.hid hx; clear hx
      have H1 := Lib.hid hc1'; have H2 := Lib.hid hc2'; clear hc1' hc2'
      go_wp2_with (first | (go_at_call 143; refine (toSlot_any x _).mono ?_; rintro e w1 ⟨rfl, hb1⟩; have R1 := hR.below hb1 (Nat.le_refl _)) | (refine wpList_store_row rfl 105 _ _ rfl w.heap.size (k * 2) 105 cur x.val rfl rfl R1 hcs (by kernel_rfl) (eSlot.hone x) ?_; intro w2 R2 O2))
      go_roundw
      case rel => exact ⟨k + 1, by omega, by go_num, only_below (hbw.trans (hb1.mono hbw.size)) O2 (Nat.le_refl _), Filled.next slot_len hlt H1.out H2.out HX.out (new := Slot.cells x) rfl R2⟩
      case measure => simp [intOf]; omega
    · have hkn : k = xs.length := by omega
      subst hkn
      go_wp2
      go_ret
      exact ⟨⟨some ⟨w.heap.size, 0, none⟩, xs.length, xs⟩, rfl, rfl, hF.own slot_len (Nat.le_refl _) (Nat.le_refl _) (by unfold maxLen; omega), hbw⟩

set_option maxHeartbeats 1000000 in
theorem toIntS_any (s : Sl Int) (w : World) (hs : Rd icell 1 w s) (hl : s.xs.length ≤ big) :
    Calls Try.prog 100 #[.slice s.A s.xs.length s.c] w fun e w' => ∃ d : Sl Int, e = .returned d.val ∧ d.xs = s.xs ∧ Own icell 1 3 w' w.heap.size d ∧ Below w.heap.size w w' := by
  obtain ⟨A, c, xs⟩ := s
  simp only at hl ⊢
  unfold big at hl
  have HS := Lib.hid hs; clear hs
  obtain ⟨i, hi, hz0, hz1, hz2⟩ := info_parts info_int
  have hmk := run_make_rowN (P := Try.prog) 24 3 i _ Try.underlying24 hi hz0 .i64 .i64 xs.length xs.length (Nat.le_refl _) (by rw [hz2]; omega) (by omega)
  rw [hz1] at hmk
  clear hi hz0 hz1 hz2
  go_enter Try.func100, Try.ntmps100
  go_wp2
  clear hmk
  go_loopw [4] (fun i wr => ∃ k : Nat, k ≤ xs.length ∧ i = .int .i64 k ∧ Below w.heap.size w wr ∧ Filled icell 1 3 wr w.heap.size xs.length xs k) (fun i _ => xs.length - (intOf i).toNat)
  case atStart => exact ⟨0, Nat.zero_le _, rfl, (Below.refl _ _).alloc (Nat.le_refl _) _, Filled.start (z := #[.int .i64 0]) (by rw [Nat.mul_one]; exact Rw.new _ _ _)⟩
  case round =>
    obtain ⟨k, hk, rfl, hbw, hF⟩ := hrel
    by_cases hlt : k < xs.length
    · obtain ⟨x, b, o, hA, hb, hx, hc0⟩ := HS.out.int hlt
      simp only at hA hx
      subst hA
      have hc0' := (bcell hbw).1 _ (o + k) hb; rw [hc0] at hc0'
      clear hc0
      obtain ⟨cur, Z, hR, hc1', hc2'⟩ := hF
      have hcs : k + 1 ≤ cur.size := by
        rw [← Array.length_toList, hc1', List.length_append, flat_len int_len, List.length_take, hc2', Nat.min_eq_left hk]; omega
      have HX := Lib.hid hx; clear hx
      have H1 := Lib.hid hc1'; have H2 := Lib.hid hc2'; clear hc1' hc2'
      go_wp2_with (first | (refine wpList_store_row rfl 3 _ _ rfl w.heap.size (k) 3 cur (.int .i64 x) rfl rfl hR hcs (by kernel_rfl) (eInt.hone x) ?_; intro w2 R2 O2))
      go_roundw
      case rel => exact ⟨k + 1, by omega, by go_num, only_below hbw O2 (Nat.le_refl _), Filled.next int_len hlt H1.out H2.out HX.out (new := icell x) rfl (by rw [Nat.mul_one]; exact R2)⟩
      case measure => simp [intOf]; omega
    · have hkn : k = xs.length := by omega
      subst hkn
      go_wp2
      go_ret
      exact ⟨⟨some ⟨w.heap.size, 0, none⟩, xs.length, xs⟩, rfl, rfl, hF.own int_len (Nat.le_refl _) (Nat.le_refl _) (by unfold maxLen; omega), hbw⟩
def szM (left : Int) (n : Nat) : Int := if left - n < 0 then -1 else left - n

theorem szInsS_any (s : Sl Ins) (left : Int) (w : World) (hl : s.xs.length ≤ maxLen) (h0 : 0 ≤ left) (h1 : left ≤ 1048576) :
    Calls Try.prog 39 #[.slice s.A s.xs.length s.c, .int .i64 left] w fun e w' => e = .returned (.int .i64 (szM left s.xs.length)) ∧ w = w' := by
  unfold maxLen at hl
  go_enter Try.func39, Try.ntmps39
  go_wp2
  all_goals (go_ret; exact ⟨ret_int (by unfold szM; split <;> omega), rfl⟩)

theorem list_eqIns {xs ys : List Ins} {k : Nat} (h : xs.take k = ys.take k) {x y : Ins} (hx : xs[k]? = some x) (hy : ys[k]? = some y) (hxy : x = y) : xs.take (k + 1) = ys.take (k + 1) := by
  rw [List.take_add_one, List.take_add_one, h, hx, hy, hxy]
theorem list_neIns {xs ys : List Ins} {k : Nat} {x y : Ins} (hx : xs[k]? = some x) (hy : ys[k]? = some y) (hxy : x ≠ y) : false = (xs == ys) := by
  symm
  rw [beq_eq_false_iff_ne]
  rintro rfl
  rw [hx] at hy; injection hy with hy; exact hxy hy
set_option maxHeartbeats 1000000 in
theorem eqInsS_any (s t : Sl Ins) (w : World) (hs : Rd Ins.cells 2 w s) (ht : Rd Ins.cells 2 w t) (hl : s.xs.length ≤ big) :
    Calls Try.prog 42 #[.slice s.A s.xs.length s.c, .slice t.A t.xs.length t.c] w fun e w' => e = .returned (.bool (s.xs == t.xs)) ∧ Below w.heap.size w w' := by
  obtain ⟨A1, c1, xs⟩ := s
  obtain ⟨A2, c2, ys⟩ := t
  simp only at hl ⊢
  unfold big at hl
  have HX := Lib.hid hs; have HY := Lib.hid ht; clear hs ht
  by_cases hn : xs.length = ys.length
  · have hne : ((xs.length : Int) != (ys.length : Int)) = false := by simp [hn]
    have HN := Lib.hid hn; clear hn
    go_enter Try.func42, Try.ntmps42
    go_wp2
    go_loopw [5] (fun i wr => ∃ k : Nat, k ≤ xs.length ∧ i = .int .i64 k ∧ Below w.heap.size w wr ∧ Hid (xs.take k = ys.take k)) (fun i _ => xs.length - (intOf i).toNat)
    case atStart => exact ⟨0, Nat.zero_le _, rfl, Below.refl _ _, rfl⟩
    case round =>
     obtain ⟨k, hk, rfl, hbw, heq⟩ := hrel
     by_cases hlt : k < xs.length
     · obtain ⟨x, b1, o1, hA1, hb1, hxk, hx0, hx1⟩ := HX.out.ins hlt
       have hlt2 : k < ys.length := HN.out ▸ hlt
       obtain ⟨y, b2, o2, hA2, hb2, hyk, hy0, hy1⟩ := HY.out.ins hlt2
       simp only at hA1 hA2 hxk hyk
       subst hA1; subst hA2
       have hx0' := (bcell hbw).1 _ (o1 + k * 2) hb1; rw [hx0] at hx0'
       have hy0' := (bcell hbw).1 _ (o2 + k * 2) hb2; rw [hy0] at hy0'
       have hx1' := (bcell hbw).1 _ (o1 + k * 2 + 1) hb1; rw [hx1] at hx1'
       have hy1' := (bcell hbw).1 _ (o2 + k * 2 + 1) hb2; rw [hy1] at hy1'
       have hb1' : b1 < wr.heap.size := Nat.lt_of_lt_of_le hb1 hbw.size
       have hb2' : b2 < wr.heap.size := Nat.lt_of_lt_of_le hb2 hbw.size
       have HXk := Lib.hid hxk; have HYk := Lib.hid hyk
       clear hx0 hy0 hx1 hy1 hxk hyk
       go_wp2
       go_region_held3 (fun w' => w'.cell? ⟨b1, o1 + k * 2, none⟩ = some (.int .i64 x.op) ∧ w'.cell? ⟨b1, o1 + k * 2 + 1, none⟩ = some (.int .i64 x.x) ∧ w'.cell? ⟨b2, o2 + k * 2, none⟩ = some (.int .i64 y.op) ∧ w'.cell? ⟨b2, o2 + k * 2 + 1, none⟩ = some (.int .i64 y.x)) ((first | (simp [*]; done) | (refine ⟨?_, ?_, ?_, ?_⟩ <;> (rw [hc' _ _ (by (try simp) <;> omega)]; simp [*]))))
       ((go_at_call 110; refine (eqIns_any _ _ _).mono ?_; rintro e w' ⟨rfl, hb'⟩; obtain ⟨hc', hf'⟩ := bcell hb'))
       go_wp2
       · go_ret
         exact ⟨ret_bool (list_neIns HXk.out HYk.out (by simp_all)), (hbw.drew.trans (hb'.mono hbw.size))⟩
       · go_roundw
         case rel => exact ⟨k + 1, by omega, by go_num, (hbw.drew.trans (hb'.mono hbw.size)), list_eqIns heq.out HXk.out HYk.out (by simp_all)⟩
         case measure => simp [intOf]; omega
     · have hkn : k = xs.length := by omega
       subst hkn
       go_wp2
       go_ret
       refine ⟨ret_bool ?_, hbw⟩
       have h := heq.out
       rw [List.take_length, HN.out, List.take_length] at h
       simp [h]
  · have hne : ((xs.length : Int) != (ys.length : Int)) = true := by rw [bne_iff_ne]; omega
    have HN := Lib.hid hn; clear hn
    go_enter Try.func42, Try.ntmps42
    go_wp2
    go_ret
    refine ⟨ret_bool ?_, Below.refl _ _⟩
    symm
    rw [beq_eq_false_iff_ne]
    rintro rfl
    exact HN.out rfl

theorem szSlotS_any (s : Sl Slot) (left : Int) (w : World) (hl : s.xs.length ≤ maxLen) (h0 : 0 ≤ left) (h1 : left ≤ 1048576) :
    Calls Try.prog 93 #[.slice s.A s.xs.length s.c, .int .i64 left] w fun e w' => e = .returned (.int .i64 (szM left s.xs.length)) ∧ w = w' := by
  unfold maxLen at hl
  go_enter Try.func93, Try.ntmps93
  go_wp2
  all_goals (go_ret; exact ⟨ret_int (by unfold szM; split <;> omega), rfl⟩)

theorem list_eqSlot {xs ys : List Slot} {k : Nat} (h : xs.take k = ys.take k) {x y : Slot} (hx : xs[k]? = some x) (hy : ys[k]? = some y) (hxy : x = y) : xs.take (k + 1) = ys.take (k + 1) := by
  rw [List.take_add_one, List.take_add_one, h, hx, hy, hxy]
theorem list_neSlot {xs ys : List Slot} {k : Nat} {x y : Slot} (hx : xs[k]? = some x) (hy : ys[k]? = some y) (hxy : x ≠ y) : false = (xs == ys) := by
  symm
  rw [beq_eq_false_iff_ne]
  rintro rfl
  rw [hx] at hy; injection hy with hy; exact hxy hy
set_option maxHeartbeats 1000000 in
theorem eqSlotS_any (s t : Sl Slot) (w : World) (hs : Rd Slot.cells 2 w s) (ht : Rd Slot.cells 2 w t) (hl : s.xs.length ≤ big) :
    Calls Try.prog 104 #[.slice s.A s.xs.length s.c, .slice t.A t.xs.length t.c] w fun e w' => e = .returned (.bool (s.xs == t.xs)) ∧ Below w.heap.size w w' := by
  obtain ⟨A1, c1, xs⟩ := s
  obtain ⟨A2, c2, ys⟩ := t
  simp only at hl ⊢
  unfold big at hl
  have HX := Lib.hid hs; have HY := Lib.hid ht; clear hs ht
  by_cases hn : xs.length = ys.length
  · have hne : ((xs.length : Int) != (ys.length : Int)) = false := by simp [hn]
    have HN := Lib.hid hn; clear hn
    go_enter Try.func104, Try.ntmps104
    go_wp2
    go_loopw [5] (fun i wr => ∃ k : Nat, k ≤ xs.length ∧ i = .int .i64 k ∧ Below w.heap.size w wr ∧ Hid (xs.take k = ys.take k)) (fun i _ => xs.length - (intOf i).toNat)
    case atStart => exact ⟨0, Nat.zero_le _, rfl, Below.refl _ _, rfl⟩
    case round =>
     obtain ⟨k, hk, rfl, hbw, heq⟩ := hrel
     by_cases hlt : k < xs.length
     · obtain ⟨x, b1, o1, hA1, hb1, hxk, hx0, hx1⟩ := HX.out.slot hlt
       have hlt2 : k < ys.length := HN.out ▸ hlt
       obtain ⟨y, b2, o2, hA2, hb2, hyk, hy0, hy1⟩ := HY.out.slot hlt2
       simp only at hA1 hA2 hxk hyk
       subst hA1; subst hA2
       have hx0' := (bcell hbw).1 _ (o1 + k * 2) hb1; rw [hx0] at hx0'
       have hy0' := (bcell hbw).1 _ (o2 + k * 2) hb2; rw [hy0] at hy0'
       have hx1' := (bcell hbw).1 _ (o1 + k * 2 + 1) hb1; rw [hx1] at hx1'
       have hy1' := (bcell hbw).1 _ (o2 + k * 2 + 1) hb2; rw [hy1] at hy1'
       have hb1' : b1 < wr.heap.size := Nat.lt_of_lt_of_le hb1 hbw.size
       have hb2' : b2 < wr.heap.size := Nat.lt_of_lt_of_le hb2 hbw.size
       have HXk := Lib.hid hxk; have HYk := Lib.hid hyk
       clear hx0 hy0 hx1 hy1 hxk hyk
       go_wp2
       go_region_held3 (fun w' => w'.cell? ⟨b1, o1 + k * 2, none⟩ = some (.int .i64 x.page) ∧ w'.cell? ⟨b1, o1 + k * 2 + 1, none⟩ = some (.int .i64 x.rights) ∧ w'.cell? ⟨b2, o2 + k * 2, none⟩ = some (.int .i64 y.page) ∧ w'.cell? ⟨b2, o2 + k * 2 + 1, none⟩ = some (.int .i64 y.rights)) ((first | (simp [*]; done) | (refine ⟨?_, ?_, ?_, ?_⟩ <;> (rw [hc' _ _ (by (try simp) <;> omega)]; simp [*]))))
       ((go_at_call 146; refine (eqSlot_any _ _ _).mono ?_; rintro e w' ⟨rfl, hb'⟩; obtain ⟨hc', hf'⟩ := bcell hb'))
       go_wp2
       · go_ret
         exact ⟨ret_bool (list_neSlot HXk.out HYk.out (by simp_all)), (hbw.drew.trans (hb'.mono hbw.size))⟩
       · go_roundw
         case rel => exact ⟨k + 1, by omega, by go_num, (hbw.drew.trans (hb'.mono hbw.size)), list_eqSlot heq.out HXk.out HYk.out (by simp_all)⟩
         case measure => simp [intOf]; omega
     · have hkn : k = xs.length := by omega
       subst hkn
       go_wp2
       go_ret
       refine ⟨ret_bool ?_, hbw⟩
       have h := heq.out
       rw [List.take_length, HN.out, List.take_length] at h
       simp [h]
  · have hne : ((xs.length : Int) != (ys.length : Int)) = true := by rw [bne_iff_ne]; omega
    have HN := Lib.hid hn; clear hn
    go_enter Try.func104, Try.ntmps104
    go_wp2
    go_ret
    refine ⟨ret_bool ?_, Below.refl _ _⟩
    symm
    rw [beq_eq_false_iff_ne]
    rintro rfl
    exact HN.out rfl

theorem szIntS_any (s : Sl Int) (left : Int) (w : World) (hl : s.xs.length ≤ maxLen) (h0 : 0 ≤ left) (h1 : left ≤ 1048576) :
    Calls Try.prog 94 #[.slice s.A s.xs.length s.c, .int .i64 left] w fun e w' => e = .returned (.int .i64 (szM left s.xs.length)) ∧ w = w' := by
  unfold maxLen at hl
  go_enter Try.func94, Try.ntmps94
  go_wp2
  all_goals (go_ret; exact ⟨ret_int (by unfold szM; split <;> omega), rfl⟩)

theorem list_eqInt {xs ys : List Int} {k : Nat} (h : xs.take k = ys.take k) {x y : Int} (hx : xs[k]? = some x) (hy : ys[k]? = some y) (hxy : x = y) : xs.take (k + 1) = ys.take (k + 1) := by
  rw [List.take_add_one, List.take_add_one, h, hx, hy, hxy]
theorem list_neInt {xs ys : List Int} {k : Nat} {x y : Int} (hx : xs[k]? = some x) (hy : ys[k]? = some y) (hxy : x ≠ y) : false = (xs == ys) := by
  symm
  rw [beq_eq_false_iff_ne]
  rintro rfl
  rw [hx] at hy; injection hy with hy; exact hxy hy
set_option maxHeartbeats 1000000 in
theorem eqIntS_any (s t : Sl Int) (w : World) (hs : Rd icell 1 w s) (ht : Rd icell 1 w t) (hl : s.xs.length ≤ big) :
    Calls Try.prog 107 #[.slice s.A s.xs.length s.c, .slice t.A t.xs.length t.c] w fun e w' => e = .returned (.bool (s.xs == t.xs)) ∧ Below w.heap.size w w' := by
  obtain ⟨A1, c1, xs⟩ := s
  obtain ⟨A2, c2, ys⟩ := t
  simp only at hl ⊢
  unfold big at hl
  have HX := Lib.hid hs; have HY := Lib.hid ht; clear hs ht
  by_cases hn : xs.length = ys.length
  · have hne : ((xs.length : Int) != (ys.length : Int)) = false := by simp [hn]
    have HN := Lib.hid hn; clear hn
    go_enter Try.func107, Try.ntmps107
    go_wp2
    go_loopw [5] (fun i wr => ∃ k : Nat, k ≤ xs.length ∧ i = .int .i64 k ∧ Below w.heap.size w wr ∧ Hid (xs.take k = ys.take k)) (fun i _ => xs.length - (intOf i).toNat)
    case atStart => exact ⟨0, Nat.zero_le _, rfl, Below.refl _ _, rfl⟩
    case round =>
     obtain ⟨k, hk, rfl, hbw, heq⟩ := hrel
     by_cases hlt : k < xs.length
     · obtain ⟨x, b1, o1, hA1, hb1, hxk, hx0⟩ := HX.out.int hlt
       have hlt2 : k < ys.length := HN.out ▸ hlt
       obtain ⟨y, b2, o2, hA2, hb2, hyk, hy0⟩ := HY.out.int hlt2
       simp only at hA1 hA2 hxk hyk
       subst hA1; subst hA2
       have hx0' := (bcell hbw).1 _ (o1 + k) hb1; rw [hx0] at hx0'
       have hy0' := (bcell hbw).1 _ (o2 + k) hb2; rw [hy0] at hy0'
       have hb1' : b1 < wr.heap.size := Nat.lt_of_lt_of_le hb1 hbw.size
       have hb2' : b2 < wr.heap.size := Nat.lt_of_lt_of_le hb2 hbw.size
       have HXk := Lib.hid hxk; have HYk := Lib.hid hyk
       clear hx0 hy0 hxk hyk
       go_wp2
       go_region_held3 (fun w' => w'.cell? ⟨b1, o1 + k, none⟩ = some (.int .i64 x) ∧ w'.cell? ⟨b2, o2 + k, none⟩ = some (.int .i64 y)) ((simp [*])) (fail)
       go_wp2
       · go_ret
         exact ⟨ret_bool (list_neInt HXk.out HYk.out (by simp_all)), hbw.drew⟩
       · go_roundw
         case rel => exact ⟨k + 1, by omega, by go_num, hbw.drew, list_eqInt heq.out HXk.out HYk.out (by simp_all)⟩
         case measure => simp [intOf]; omega
     · have hkn : k = xs.length := by omega
       subst hkn
       go_wp2
       go_ret
       refine ⟨ret_bool ?_, hbw⟩
       have h := heq.out
       rw [List.take_length, HN.out, List.take_length] at h
       simp [h]
  · have hne : ((xs.length : Int) != (ys.length : Int)) = true := by rw [bne_iff_ne]; omega
    have HN := Lib.hid hn; clear hn
    go_enter Try.func107, Try.ntmps107
    go_wp2
    go_ret
    refine ⟨ret_bool ?_, Below.refl _ _⟩
    symm
    rw [beq_eq_false_iff_ne]
    rintro rfl
    exact HN.out rfl
end Go.Proofs.Ytedjbholpdinkaa
