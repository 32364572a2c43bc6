/- Contracts of TableNew(4), of the program (slices.Repeat) and of the reference. No condition. -/
import Derived.Test.YtaafnenmdombiaaGreatDl
import Derived.Test.YtaafnenmdombiaaGreatGd
import Derived.Test.YtaafnenmdombiaaGreatBc
namespace Go.Proofs.YtaafnenmdombiaaGreat
set_option linter.unusedSimpArgs false
set_option linter.unusedVariables false
open Go.RowKit
section
variable {P : Program} {α : Type} {enc : α → List Value} {sz bytes e t : Nat} {w0 w : World} {L L' : List En} {s : Sl α}
variable {ops : Array Oper} {rest : List Oper} {o : Oper} {a : Act} {Q : Go.Exit → Act → World → Prop} {K : Act → World → Prop} {x y : Operand}
end
set_option maxRecDepth 100000 in
set_option maxHeartbeats 4000000 in
theorem specBrought4_c (w : World) : Calls Tryz.prog 180 #[.int .i64 4, .int .i64 0, .int .i64 24] w fun e w' => e = .returned (.int .i64 4) ∧ Hp w w' [] := by
  have H := Hp.start w
  go_enter Tryz.func180, Tryz.ntmps180
  go_wp2
  go_ret
  exact ⟨rfl, H⟩
set_option maxRecDepth 100000 in
set_option maxHeartbeats 4000000 in
theorem specTableNew_c (W0 : World) : Calls Tryz.prog 181 #[.int .i64 4] W0 fun e w' => ∃ d : Sl Slot, e = .returned (.slice d.A d.xs.length d.c) ∧ d.xs = [⟨-1, 0⟩, ⟨-1, 0⟩, ⟨-1, 0⟩, ⟨-1, 0⟩] ∧ Hp W0 w' [.slot d] := by
  have H := Hp.start W0
  have H := Hp.start W0
  go_enter Tryz.func181, Tryz.ntmps181
  go_wp2_with (first
    | go_skip
    | ((with_reducible refine at_box ?_); first | (refine wpList_box_H rfl rfl H rfl (by constructor) ?_; clear H; intro b w H))
    | ((with_reducible refine at_alloc ?_); first | (refine wpList_alloc_H rfl rfl H ?_; clear H; intro b w H))
    | ((with_reducible refine at_load ?_); first | (refine wpList_load_H rfl rfl H rfl (by repeat constructor) ?_) | (refine wpList_loads_H rfl rfl H rfl (by repeat constructor) ?_))
    | ((with_reducible refine at_store ?_); first | (refine wpList_store_H rfl rfl H rfl rfl (by repeat constructor) ?_; clear H; intro w H))
    | ((with_reducible refine at_slice ?_); first | (refine wpList_nil_H rfl rfl H ?_; clear H; intro bn w H))
    | (go_at_call 180; refine (specBrought4_c _).mono ?_; rintro e w ⟨rfl, K⟩; replace H := H.add_all K; clear K))
  go_loopw [3, 4] (fun ov i wr => ∃ (k : Nat) (c : Sl Slot), k ≤ 4 ∧ i = .int .i64 (4 - k : Int) ∧ ov = .slice c.A c.xs.length c.c ∧ Hid (c.xs = List.replicate k (⟨-1, 0⟩ : Slot)) ∧ Hp W0 wr [.slot c]) (fun _ i _ => (intOf i).toNat)
  case atStart => exact ⟨0, ⟨some ⟨bn, 0, none⟩, 0, []⟩, by omega, rfl, rfl, Lib.hid rfl, H⟩
  case round =>
    clear H
    obtain ⟨k, c, hk, rfl, rfl, HX, H⟩ := hrel
    have hl : c.xs.length = k := by rw [HX.out]; simp
    have HL := Lib.hid hl; clear hl
    by_cases hk4 : k < 4
    · have hpos : (0 : Int) < 4 - k := by omega
      go_wp2_with (first
        | go_skip
        | ((with_reducible refine at_box ?_); first | (refine wpList_box_H rfl rfl H rfl (by constructor) ?_; clear H; intro b w H))
        | ((with_reducible refine at_alloc ?_); first | (refine wpList_alloc_H rfl rfl H ?_; clear H; intro b w H))
        | ((with_reducible refine at_load ?_); first | (refine wpList_load_H rfl rfl H rfl (by repeat constructor) ?_) | (refine wpList_loads_H rfl rfl H rfl (by repeat constructor) ?_))
        | ((with_reducible refine at_store ?_); first | (refine wpList_store_H rfl rfl H rfl rfl (by repeat constructor) ?_; clear H; intro w H))
        | ((with_reducible refine at_slice ?_); first | (refine wpList_one_H rfl rfl H (⟨-1, 0⟩ : Slot) rfl CellsOf.agg rfl (by decide) ?_; clear H; intro bl w H))
        | ((with_reducible refine at_append ?_); first | (refine wpList_append_H rfl rfl H c (⟨some ⟨bl, 0, none⟩, 1, [(⟨-1, 0⟩ : Slot)]⟩ : Sl Slot) rfl rfl (by repeat constructor) (H.rd (s := (⟨some ⟨bl, 0, none⟩, 1, [(⟨-1, 0⟩ : Slot)]⟩ : Sl Slot)) (by repeat constructor) slot_len) (by rw [HL.out]; show k + 1 ≤ _; omega) (by decide) ?_; clear H; intro d w HY H))
        | (go_at_call 141; refine (specNoSlot_c _).mono ?_; rintro e w ⟨rfl, hb⟩; replace H := H.still hb; clear hb))
      go_roundw
      case rel => exact ⟨k + 1, d, by omega, by go_num, rfl, Lib.hid (by rw [HY.out, HX.out, List.replicate_succ']), H.pick (.cons (by repeat constructor) .nil)⟩
      case measure => simp [intOf]; omega
    · have hke : k = 4 := by omega
      subst hke
      go_wp2
      go_ret
      exact ⟨c, rfl, HX.out, H⟩
end Go.Proofs.YtaafnenmdombiaaGreat

/- Contracts of GuestNew, of the program and of the reference. No condition but that the argument lies in memory. -/
namespace Go.Proofs.YtaafnenmdombiaaGreat
set_option linter.unusedSimpArgs false
set_option linter.unusedVariables false
open Go.RowKit
def guestNewM (p : List Ins) : MG := ⟨p, 0, 0, [⟨-1, 0⟩, ⟨-1, 0⟩, ⟨-1, 0⟩, ⟨-1, 0⟩], [⟨-1, 0⟩, ⟨-1, 0⟩, ⟨-1, 0⟩, ⟨-1, 0⟩], ⟨0, 0, false⟩, 0, ⟨0, 0, false, 0⟩, false, []⟩
theorem Hp.nil_int {w0 w : World} {L : List En} (H : Hp w0 w L) : Hp w0 w (.int (Sl.nil Int) :: L) :=
  H.add (Below.refl _ _) (Own.none_ _) (by simp [En.sl, Sl.nil, Sl.blk]) (by simp [En.sl, Sl.nil, Sl.blk])
@[go_sem] theorem run_build_guest (A1 A2 A3 : Option Addr) (n1 n2 n3 c1 c2 c3 : Nat) (w : World) : (Instr.build 53 #[(0, .slice A1 n1 c1), (3, .slice A2 n2 c2), (4, .slice A3 n3 c3)]).run Tryz.prog w = .ok (.agg #[.slice A1 n1 c1, .int .i64 0, .int .i64 0, .slice A2 n2 c2, .slice A3 n3 c3, .int .i64 0, .int .i64 0, .bool false, .int .i64 0, .int .i64 0, .int .i64 0, .bool false, .int .i64 0, .bool false, .slice none 0 0]) w := by kernel_rfl
set_option maxRecDepth 100000 in
set_option maxHeartbeats 4000000 in
theorem specGuestNew_c (p : Sl Ins) (W0 : World) (R : Rd Ins.cells 2 W0 p) (Z : p.xs.length ≤ 4194304) : Calls Tryz.prog 111 #[.slice p.A p.xs.length p.c] W0 fun e w' => ∃ d : GV, e = .returned d.val ∧ d.m = guestNewM p.xs ∧ Hp W0 w' [.gst d] := by
  have H := Hp.start W0
  have H := Hp.start W0
  go_enter Tryz.func111, Tryz.ntmps111
  go_wp2_with (first
    | go_skip
    | ((with_reducible refine at_box ?_); first | (refine wpList_box_H rfl rfl H rfl (by constructor) ?_; clear H; intro bB w H))
    | ((with_reducible refine at_alloc ?_); first | (refine wpList_alloc_H rfl rfl H ?_; clear H; intro bG w H))
    | ((with_reducible refine at_load ?_); first | (refine wpList_load_H rfl rfl H rfl (by repeat constructor) ?_) | (refine wpList_loads_H rfl rfl H rfl (by repeat constructor) ?_))
    | ((with_reducible refine at_store ?_); first | (refine wpList_store_H rfl rfl H rfl rfl (by repeat constructor) ?_; clear H; intro w H))
    | ((with_reducible refine at_slice ?_); first | (refine wpList_nil_H rfl rfl H ?_; clear H; intro bn w H))
    | ((with_reducible refine at_append ?_); first | (refine wpList_append_H rfl rfl H (⟨some ⟨bn, 0, none⟩, 0, []⟩ : Sl Ins) p rfl rfl (by repeat constructor) (R.at_ H) (by simp only [List.length_nil]; omega) (by decide) ?_; clear H; intro q w HQ H; replace HQ := nil_app HQ)))
  go_at_call 181
  refine (specTableNew_c _).mono ?_
  rintro e w ⟨wr, rfl, HX, K⟩
  have Hwr := Lib.hid HX; clear HX
  replace H := H.add_all K; clear K
  go_wp2_with (first
    | go_skip
    | ((with_reducible refine at_box ?_); first | (refine wpList_box_H rfl rfl H rfl (by constructor) ?_; clear H; intro bB w H))
    | ((with_reducible refine at_alloc ?_); first | (refine wpList_alloc_H rfl rfl H ?_; clear H; intro bG w H))
    | ((with_reducible refine at_load ?_); first | (refine wpList_load_H rfl rfl H rfl (by repeat constructor) ?_) | (refine wpList_loads_H rfl rfl H rfl (by repeat constructor) ?_))
    | ((with_reducible refine at_store ?_); first | (refine wpList_store_H rfl rfl H rfl rfl (by repeat constructor) ?_; clear H; intro w H)))
  go_at_call 181
  refine (specTableNew_c _).mono ?_
  rintro e w ⟨lv, rfl, HX, K⟩
  have Hlv := Lib.hid HX; clear HX
  replace H := H.add_all K; clear K
  go_wp2_with (first
    | go_skip
    | ((with_reducible refine at_box ?_); first | (refine wpList_box_H rfl rfl H rfl (by constructor) ?_; clear H; intro bB w H))
    | ((with_reducible refine at_alloc ?_); first | (refine wpList_alloc_H rfl rfl H ?_; clear H; intro bG w H))
    | ((with_reducible refine at_load ?_); first | (refine wpList_load_H rfl rfl H rfl (by repeat constructor) ?_) | (refine wpList_loads_H rfl rfl H rfl (by repeat constructor) ?_))
    | ((with_reducible refine at_store ?_); first | (refine wpList_store_H rfl rfl H rfl rfl (by repeat constructor) ?_; clear H; intro w H)))
  replace H := H.nil_int
  refine bodyPost_ret (results_H rfl H rfl (by repeat constructor)) rfl ⟨⟨q, 0, 0, wr, lv, ⟨0, 0, false⟩, 0, ⟨0, 0, false, 0⟩, false, Sl.nil Int⟩, rfl, ?_, (H.pick (M := [.ins q, .slot wr, .slot lv, .int (Sl.nil Int)]) (.cons (by repeat constructor) (.cons (by repeat constructor) (.cons (by repeat constructor) (.cons (by repeat constructor) .nil))))).guest 0 0 _ 0 _ false⟩
  show MG.mk q.xs 0 0 wr.xs lv.xs _ 0 _ false [] = _
  rw [HQ.out, Hwr.out, Hlv.out]; rfl
end Go.Proofs.YtaafnenmdombiaaGreat

/- Contracts of MemNew(8), of the program and of the reference. No condition. -/
namespace Go.Proofs.YtaafnenmdombiaaGreat
set_option linter.unusedSimpArgs false
set_option linter.unusedVariables false
open Go.RowKit
set_option maxRecDepth 100000 in
set_option maxHeartbeats 4000000 in
theorem specBrought8_c (w : World) : Calls Tryz.prog 180 #[.int .i64 8, .int .i64 0, .int .i64 24] w fun e w' => e = .returned (.int .i64 8) ∧ Hp w w' [] := by
  have H := Hp.start w
  go_enter Tryz.func180, Tryz.ntmps180
  go_wp2
  go_ret
  exact ⟨rfl, H⟩
set_option maxRecDepth 100000 in
set_option maxHeartbeats 4000000 in
theorem specMemNew_c (W0 : World) : Calls Tryz.prog 110 #[.int .i64 8] W0 fun e w' => ∃ d : Sl (Sl Int), e = .returned (.slice d.A d.xs.length d.c) ∧ d.xs.map (fun x => x.xs) = List.replicate 8 [0, 0, 0, 0] ∧ Hp W0 w' [.rows d, .many En.int d.xs] := by
  have H := Hp.start W0
  have H := Hp.start W0
  go_enter Tryz.func110, Tryz.ntmps110
  go_wp2_with (first
    | go_skip
    | ((with_reducible refine at_box ?_); first | (refine wpList_box_H rfl rfl H rfl (by constructor) ?_; clear H; intro b w H))
    | ((with_reducible refine at_alloc ?_); first | (refine wpList_alloc_H rfl rfl H ?_; clear H; intro b w H))
    | ((with_reducible refine at_load ?_); first | (refine wpList_load_H rfl rfl H rfl (by repeat constructor) ?_) | (refine wpList_loads_H rfl rfl H rfl (by repeat constructor) ?_))
    | ((with_reducible refine at_store ?_); first | (refine wpList_store_H rfl rfl H rfl rfl (by repeat constructor) ?_; clear H; intro w H))
    | ((with_reducible refine at_slice ?_); first | (refine wpList_nil_H rfl rfl H ?_; clear H; intro bn w H))
    | (go_at_call 180; refine (specBrought8_c _).mono ?_; rintro e w ⟨rfl, K⟩; replace H := H.add_all K; clear K))
  replace H := H.many_nil En.int
  go_loopw [3, 4] (fun ov i wr => ∃ (k : Nat) (d : Sl (Sl Int)), k ≤ 8 ∧ i = .int .i64 (8 - k : Int) ∧ ov = .slice d.A d.xs.length d.c ∧ Hid (d.xs.length = k) ∧ Hid (d.xs.map (fun x => x.xs) = List.replicate k [0, 0, 0, 0]) ∧ Hp W0 wr [.rows d, .many En.int d.xs]) (fun _ i _ => (intOf i).toNat)
  case atStart => exact ⟨0, ⟨some ⟨bn, 0, none⟩, 0, []⟩, by omega, rfl, rfl, Lib.hid rfl, Lib.hid rfl, H.perm (List.Perm.swap _ _ _)⟩
  case round =>
    clear H
    obtain ⟨k, d, hk0, rfl, rfl, HL, HD, H⟩ := hrel
    by_cases hk : k < 8
    · have hpos : (0 : Int) < 8 - k := by omega
      go_wp2_with (first
        | go_skip
        | ((with_reducible refine at_box ?_); first | (refine wpList_box_H rfl rfl H rfl (by constructor) ?_; clear H; intro b w H))
        | ((with_reducible refine at_alloc ?_); first | (refine wpList_alloc_H rfl rfl H ?_; clear H; intro b w H))
        | ((with_reducible refine at_load ?_); first | (refine wpList_load_H rfl rfl H rfl (by repeat constructor) ?_) | (refine wpList_loads_H rfl rfl H rfl (by repeat constructor) ?_))
        | ((with_reducible refine at_store ?_); first | (refine wpList_store_H rfl rfl H rfl rfl (by repeat constructor) ?_; clear H; intro w H))
        | ((with_reducible refine at_slice ?_); first | (refine wpList_one_H rfl rfl H (⟨some ⟨bm, 0, none⟩, 4, List.replicate 4 0⟩ : Sl Int) rfl (by first | exact CellsOf.agg | exact CellsOf.slice) rfl (by decide) ?_; clear H; intro bl w H))
        | ((with_reducible refine at_mkslice ?_); first | (refine wpList_make_H (n := 4) rfl rfl H (0 : Int) rfl rfl rfl (by decide) (by decide) ?_; clear H; intro bm w H))
        | ((with_reducible refine at_append ?_); first | (refine wpList_append_H rfl rfl H d (⟨some ⟨bl, 0, none⟩, 1, [(⟨some ⟨bm, 0, none⟩, 4, List.replicate 4 0⟩ : Sl Int)]⟩ : Sl (Sl Int)) rfl rfl (by repeat constructor) (H.rd (s := (⟨some ⟨bl, 0, none⟩, 1, [(⟨some ⟨bm, 0, none⟩, 4, List.replicate 4 0⟩ : Sl Int)]⟩ : Sl (Sl Int))) (by repeat constructor) h_len) (by have := HL.out; simp only [List.length_cons, List.length_nil]; omega) (by decide) ?_; clear H; intro d' w hx' H))
        | (go_at_call 180; refine (specBrought8_c _).mono ?_; rintro e w ⟨rfl, K⟩; replace H := H.add_all K; clear K))
      go_roundw
      case rel =>
        refine ⟨k + 1, d', by omega, by go_num, rfl, Lib.hid (by rw [hx'.out]; simp [HL.out]), Lib.hid ((by rw [hx'.out, List.map_append, HD.out]; rfl : d'.xs.map (fun x => x.xs) = List.replicate k [0, 0, 0, 0] ++ [[0, 0, 0, 0]]).trans List.replicate_succ'.symm), ?_⟩
        rw [hx'.out]
        exact (H.pick (M := [.int (⟨some ⟨bm, 0, none⟩, 4, List.replicate 4 0⟩ : Sl Int), .many En.int d.xs, .rows d']) (.cons (by repeat constructor) (.cons (by repeat constructor) (.cons (by repeat constructor) .nil)))).many_snoc.perm (List.Perm.swap _ _ _)
      case measure => simp [intOf]; omega
    · have hke : k = 8 := by omega
      subst hke
      go_wp2_with (first
        | go_skip
        | ((with_reducible refine at_box ?_); first | (refine wpList_box_H rfl rfl H rfl (by constructor) ?_; clear H; intro b w H))
        | ((with_reducible refine at_alloc ?_); first | (refine wpList_alloc_H rfl rfl H ?_; clear H; intro b w H))
        | ((with_reducible refine at_load ?_); first | (refine wpList_load_H rfl rfl H rfl (by repeat constructor) ?_) | (refine wpList_loads_H rfl rfl H rfl (by repeat constructor) ?_))
        | ((with_reducible refine at_store ?_); first | (refine wpList_store_H rfl rfl H rfl rfl (by repeat constructor) ?_; clear H; intro w H))
        | (go_at_call 180; refine (specBrought8_c _).mono ?_; rintro e w ⟨rfl, K⟩; replace H := H.add_all K; clear K))
      go_ret
      exact ⟨d, rfl, HD.out, H.pick (.cons (by repeat constructor) (.cons (by repeat constructor) .nil))⟩
end Go.Proofs.YtaafnenmdombiaaGreat
