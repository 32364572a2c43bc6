/- Contracts of MemNew(8), of the program and of the reference. No condition. -/
import Derived.Test.YtgeoilpmmdfemaaGw
namespace Go.Proofs.Ytgeoilpmmdfemaa
open Go.RowKit
set_option linter.unusedSimpArgs false in
set_option linter.unusedVariables false in
set_option maxRecDepth 100000 in
set_option maxHeartbeats 4000000 in
theorem brought8_c (w : World) : Calls Try.prog 182 #[.int .i64 8, .int .i64 0, .int .i64 24] w fun e w' => e = .returned (.int .i64 8) ∧ Hp w w' [] := by
  have H := Hp.start w
  go_enter Try.func182, Try.ntmps182
  go_wp2
  go_ret
  exact ⟨rfl, H⟩
set_option linter.unusedSimpArgs false in
set_option linter.unusedVariables false in
set_option maxRecDepth 100000 in
set_option maxHeartbeats 4000000 in
theorem specBrought8_c (w : World) : Calls Try.prog 179 #[.int .i64 8, .int .i64 0, .int .i64 24] w fun e w' => e = .returned (.int .i64 8) ∧ Hp w w' [] := by
  have H := Hp.start w
  go_enter Try.func179, Try.ntmps179
  go_wp2
  go_ret
  exact ⟨rfl, H⟩
set_option linter.unusedSimpArgs false in
set_option linter.unusedVariables false in
set_option maxRecDepth 100000 in
set_option maxHeartbeats 4000000 in
theorem memNew_c (W0 : World) : Calls Try.prog 120 #[.int .i64 8] W0 fun e w' => ∃ d : Sl (Sl Int), e = .returned (.slice d.A d.xs.length d.c) ∧ d.xs.map (fun x => x.xs) = List.replicate 8 [0, 0, 0, 0] ∧ Hp W0 w' [.rows d, .many En.int d.xs] := by
  have H := Hp.start W0
  have H := Hp.start W0
  go_enter Try.func120, Try.ntmps120
  go_wp2_with (first
    | go_skip
    | ((with_reducible refine at_box ?_); first | (refine wpList_box_H rfl rfl H rfl (by first | exact CellsOf.agg | exact CellsOf.int | exact CellsOf.bool | exact CellsOf.slice | exact CellsOf.string | exact CellsOf.pointer | exact CellsOf.func) ?_; clear H; intro b w H))
    | ((with_reducible refine at_alloc ?_); first | (refine wpList_alloc_H rfl rfl H ?_; clear H; intro b w H))
    | ((with_reducible refine at_load ?_); first | (refine wpList_load_H rfl rfl H rfl (by repeat (first | exact LoadAt.here rfl | apply LoadAt.there)) ?_) | (refine wpList_loads_H rfl rfl H rfl (by repeat (first | (apply LoadsAt.here; repeat (first | exact GetsAt.nil | apply GetsAt.here | apply GetsAt.there)) | apply LoadsAt.there)) ?_))
    | ((with_reducible refine at_store ?_); first | (refine wpList_store_H rfl rfl H rfl rfl (by repeat (first | (apply StoreAt.here; (first | exact CellsOf.agg | exact CellsOf.int | exact CellsOf.bool | exact CellsOf.slice | exact CellsOf.string | exact CellsOf.pointer | exact CellsOf.func); (repeat (first | exact SetsAt.nil | apply SetsAt.here | apply SetsAt.there)); exact rfl; exact rfl) | apply StoreAt.there)) ?_; clear H; intro w H))
    | ((with_reducible refine at_slice ?_); first | (refine wpList_nil_H rfl rfl H ?_; clear H; intro bn w H))
    | (go_at_call 182; refine (brought8_c _).mono ?_; rintro e w ⟨rfl, K⟩; replace H := H.add_all K; clear K))
  replace H := H.many_nil En.int
  go_loopw [3, 4] (fun ov i wr => ∃ (k : Nat) (d : Sl (Sl Int)), k ≤ 8 ∧ i = .int .i64 (k : Int) ∧ ov = .slice d.A d.xs.length d.c ∧ Hid (d.xs.length = k) ∧ Hid (d.xs.map (fun x => x.xs) = List.replicate k [0, 0, 0, 0]) ∧ Hp W0 wr [.rows d, .many En.int d.xs]) (fun _ i _ => 8 - (intOf i).toNat)
  case atStart => exact ⟨0, ⟨some ⟨bn, 0, none⟩, 0, []⟩, by omega, rfl, rfl, Lib.hid rfl, Lib.hid rfl, H.perm (List.Perm.swap _ _ _)⟩
  case round =>
    clear H
    obtain ⟨k, d, hk0, rfl, rfl, HL, HD, H⟩ := hrel
    by_cases hk : k < 8
    · have hpos : (0 : Int) < 8 - k := by omega
      go_wp2_with (first
        | go_skip
        | ((with_reducible refine at_box ?_); first | (refine wpList_box_H rfl rfl H rfl (by first | exact CellsOf.agg | exact CellsOf.int | exact CellsOf.bool | exact CellsOf.slice | exact CellsOf.string | exact CellsOf.pointer | exact CellsOf.func) ?_; clear H; intro b w H))
        | ((with_reducible refine at_alloc ?_); first | (refine wpList_alloc_H rfl rfl H ?_; clear H; intro b w H))
        | ((with_reducible refine at_load ?_); first | (refine wpList_load_H rfl rfl H rfl (by repeat (first | exact LoadAt.here rfl | apply LoadAt.there)) ?_) | (refine wpList_loads_H rfl rfl H rfl (by repeat (first | (apply LoadsAt.here; repeat (first | exact GetsAt.nil | apply GetsAt.here | apply GetsAt.there)) | apply LoadsAt.there)) ?_))
        | ((with_reducible refine at_store ?_); first | (refine wpList_store_H rfl rfl H rfl rfl (by repeat (first | (apply StoreAt.here; (first | exact CellsOf.agg | exact CellsOf.int | exact CellsOf.bool | exact CellsOf.slice | exact CellsOf.string | exact CellsOf.pointer | exact CellsOf.func); (repeat (first | exact SetsAt.nil | apply SetsAt.here | apply SetsAt.there)); exact rfl; exact rfl) | apply StoreAt.there)) ?_; clear H; intro w H))
        | ((with_reducible refine at_slice ?_); first | (refine wpList_one_H rfl rfl H (⟨some ⟨bm, 0, none⟩, 4, List.replicate 4 0⟩ : Sl Int) rfl (by first | exact CellsOf.agg | exact CellsOf.slice) rfl (by decide) ?_; clear H; intro bl w H))
        | ((with_reducible refine at_mkslice ?_); first | (refine wpList_make_H (n := 4) rfl rfl H (0 : Int) rfl rfl rfl (by decide) (by decide) ?_; clear H; intro bm w H))
        | ((with_reducible refine at_append ?_); first | (refine wpList_append_H rfl rfl H d (⟨some ⟨bl, 0, none⟩, 1, [(⟨some ⟨bm, 0, none⟩, 4, List.replicate 4 0⟩ : Sl Int)]⟩ : Sl (Sl Int)) rfl rfl (by repeat (first | exact Take.head | apply Take.tail)) (H.rd (s := (⟨some ⟨bl, 0, none⟩, 1, [(⟨some ⟨bm, 0, none⟩, 4, List.replicate 4 0⟩ : Sl Int)]⟩ : Sl (Sl Int))) (by repeat (first | exact Take.head | apply Take.tail)) h_len) (by have := HL.out; simp only [List.length_cons, List.length_nil]; omega) (by decide) ?_; clear H; intro d' w hx' H))
        | (go_at_call 182; refine (brought8_c _).mono ?_; rintro e w ⟨rfl, K⟩; replace H := H.add_all K; clear K))
      go_roundw
      case rel =>
        refine ⟨k + 1, d', by omega, by go_num, rfl, Lib.hid (by rw [hx'.out]; simp [HL.out]), Lib.hid ((by rw [hx'.out, List.map_append, HD.out]; rfl : d'.xs.map (fun x => x.xs) = List.replicate k [0, 0, 0, 0] ++ [[0, 0, 0, 0]]).trans List.replicate_succ'.symm), ?_⟩
        rw [hx'.out]
        exact (H.pick (M := [.int (⟨some ⟨bm, 0, none⟩, 4, List.replicate 4 0⟩ : Sl Int), .many En.int d.xs, .rows d']) (.cons (by repeat (first | exact Take.head | apply Take.tail)) (.cons (by repeat (first | exact Take.head | apply Take.tail)) (.cons (by repeat (first | exact Take.head | apply Take.tail)) .nil)))).many_snoc.perm (List.Perm.swap _ _ _)
      case measure => simp [intOf]; omega
    · have hke : k = 8 := by omega
      subst hke
      go_wp2_with (first
        | go_skip
        | ((with_reducible refine at_box ?_); first | (refine wpList_box_H rfl rfl H rfl (by first | exact CellsOf.agg | exact CellsOf.int | exact CellsOf.bool | exact CellsOf.slice | exact CellsOf.string | exact CellsOf.pointer | exact CellsOf.func) ?_; clear H; intro b w H))
        | ((with_reducible refine at_alloc ?_); first | (refine wpList_alloc_H rfl rfl H ?_; clear H; intro b w H))
        | ((with_reducible refine at_load ?_); first | (refine wpList_load_H rfl rfl H rfl (by repeat (first | exact LoadAt.here rfl | apply LoadAt.there)) ?_) | (refine wpList_loads_H rfl rfl H rfl (by repeat (first | (apply LoadsAt.here; repeat (first | exact GetsAt.nil | apply GetsAt.here | apply GetsAt.there)) | apply LoadsAt.there)) ?_))
        | ((with_reducible refine at_store ?_); first | (refine wpList_store_H rfl rfl H rfl rfl (by repeat (first | (apply StoreAt.here; (first | exact CellsOf.agg | exact CellsOf.int | exact CellsOf.bool | exact CellsOf.slice | exact CellsOf.string | exact CellsOf.pointer | exact CellsOf.func); (repeat (first | exact SetsAt.nil | apply SetsAt.here | apply SetsAt.there)); exact rfl; exact rfl) | apply StoreAt.there)) ?_; clear H; intro w H))
        | (go_at_call 182; refine (brought8_c _).mono ?_; rintro e w ⟨rfl, K⟩; replace H := H.add_all K; clear K))
      go_ret
      exact ⟨d, rfl, HD.out, H.pick (.cons (by repeat (first | exact Take.head | apply Take.tail)) (.cons (by repeat (first | exact Take.head | apply Take.tail)) .nil))⟩
set_option linter.unusedSimpArgs false in
set_option linter.unusedVariables false in
set_option maxRecDepth 100000 in
set_option maxHeartbeats 4000000 in
theorem specMemNew_c (W0 : World) : Calls Try.prog 117 #[.int .i64 8] W0 fun e w' => ∃ d : Sl (Sl Int), e = .returned (.slice d.A d.xs.length d.c) ∧ d.xs.map (fun x => x.xs) = List.replicate 8 [0, 0, 0, 0] ∧ Hp W0 w' [.rows d, .many En.int d.xs] := by
  have H := Hp.start W0
  have H := Hp.start W0
  go_enter Try.func117, Try.ntmps117
  go_wp2_with (first
    | go_skip
    | ((with_reducible refine at_box ?_); first | (refine wpList_box_H rfl rfl H rfl (by first | exact CellsOf.agg | exact CellsOf.int | exact CellsOf.bool | exact CellsOf.slice | exact CellsOf.string | exact CellsOf.pointer | exact CellsOf.func) ?_; clear H; intro b w H))
    | ((with_reducible refine at_alloc ?_); first | (refine wpList_alloc_H rfl rfl H ?_; clear H; intro b w H))
    | ((with_reducible refine at_load ?_); first | (refine wpList_load_H rfl rfl H rfl (by repeat (first | exact LoadAt.here rfl | apply LoadAt.there)) ?_) | (refine wpList_loads_H rfl rfl H rfl (by repeat (first | (apply LoadsAt.here; repeat (first | exact GetsAt.nil | apply GetsAt.here | apply GetsAt.there)) | apply LoadsAt.there)) ?_))
    | ((with_reducible refine at_store ?_); first | (refine wpList_store_H rfl rfl H rfl rfl (by repeat (first | (apply StoreAt.here; (first | exact CellsOf.agg | exact CellsOf.int | exact CellsOf.bool | exact CellsOf.slice | exact CellsOf.string | exact CellsOf.pointer | exact CellsOf.func); (repeat (first | exact SetsAt.nil | apply SetsAt.here | apply SetsAt.there)); exact rfl; exact rfl) | apply StoreAt.there)) ?_; clear H; intro w H))
    | ((with_reducible refine at_slice ?_); first | (refine wpList_nil_H rfl rfl H ?_; clear H; intro bn w H))
    | (go_at_call 179; refine (specBrought8_c _).mono ?_; rintro e w ⟨rfl, K⟩; replace H := H.add_all K; clear K))
  replace H := H.many_nil En.int
  go_loopw [3, 4] (fun ov i wr => ∃ (k : Nat) (d : Sl (Sl Int)), k ≤ 8 ∧ i = .int .i64 (8 - k : Int) ∧ ov = .slice d.A d.xs.length d.c ∧ Hid (d.xs.length = k) ∧ Hid (d.xs.map (fun x => x.xs) = List.replicate k [0, 0, 0, 0]) ∧ Hp W0 wr [.rows d, .many En.int d.xs]) (fun _ i _ => (intOf i).toNat)
  case atStart => exact ⟨0, ⟨some ⟨bn, 0, none⟩, 0, []⟩, by omega, rfl, rfl, Lib.hid rfl, Lib.hid rfl, H.perm (List.Perm.swap _ _ _)⟩
  case round =>
    clear H
    obtain ⟨k, d, hk0, rfl, rfl, HL, HD, H⟩ := hrel
    by_cases hk : k < 8
    · have hpos : (0 : Int) < 8 - k := by omega
      go_wp2_with (first
        | go_skip
        | ((with_reducible refine at_box ?_); first | (refine wpList_box_H rfl rfl H rfl (by first | exact CellsOf.agg | exact CellsOf.int | exact CellsOf.bool | exact CellsOf.slice | exact CellsOf.string | exact CellsOf.pointer | exact CellsOf.func) ?_; clear H; intro b w H))
        | ((with_reducible refine at_alloc ?_); first | (refine wpList_alloc_H rfl rfl H ?_; clear H; intro b w H))
        | ((with_reducible refine at_load ?_); first | (refine wpList_load_H rfl rfl H rfl (by repeat (first | exact LoadAt.here rfl | apply LoadAt.there)) ?_) | (refine wpList_loads_H rfl rfl H rfl (by repeat (first | (apply LoadsAt.here; repeat (first | exact GetsAt.nil | apply GetsAt.here | apply GetsAt.there)) | apply LoadsAt.there)) ?_))
        | ((with_reducible refine at_store ?_); first | (refine wpList_store_H rfl rfl H rfl rfl (by repeat (first | (apply StoreAt.here; (first | exact CellsOf.agg | exact CellsOf.int | exact CellsOf.bool | exact CellsOf.slice | exact CellsOf.string | exact CellsOf.pointer | exact CellsOf.func); (repeat (first | exact SetsAt.nil | apply SetsAt.here | apply SetsAt.there)); exact rfl; exact rfl) | apply StoreAt.there)) ?_; clear H; intro w H))
        | ((with_reducible refine at_slice ?_); first | (refine wpList_one_H rfl rfl H (⟨some ⟨bm, 0, none⟩, 4, List.replicate 4 0⟩ : Sl Int) rfl (by first | exact CellsOf.agg | exact CellsOf.slice) rfl (by decide) ?_; clear H; intro bl w H))
        | ((with_reducible refine at_mkslice ?_); first | (refine wpList_make_H (n := 4) rfl rfl H (0 : Int) rfl rfl rfl (by decide) (by decide) ?_; clear H; intro bm w H))
        | ((with_reducible refine at_append ?_); first | (refine wpList_append_H rfl rfl H d (⟨some ⟨bl, 0, none⟩, 1, [(⟨some ⟨bm, 0, none⟩, 4, List.replicate 4 0⟩ : Sl Int)]⟩ : Sl (Sl Int)) rfl rfl (by repeat (first | exact Take.head | apply Take.tail)) (H.rd (s := (⟨some ⟨bl, 0, none⟩, 1, [(⟨some ⟨bm, 0, none⟩, 4, List.replicate 4 0⟩ : Sl Int)]⟩ : Sl (Sl Int))) (by repeat (first | exact Take.head | apply Take.tail)) h_len) (by have := HL.out; simp only [List.length_cons, List.length_nil]; omega) (by decide) ?_; clear H; intro d' w hx' H))
        | (go_at_call 179; refine (specBrought8_c _).mono ?_; rintro e w ⟨rfl, K⟩; replace H := H.add_all K; clear K))
      go_roundw
      case rel =>
        refine ⟨k + 1, d', by omega, by go_num, rfl, Lib.hid (by rw [hx'.out]; simp [HL.out]), Lib.hid ((by rw [hx'.out, List.map_append, HD.out]; rfl : d'.xs.map (fun x => x.xs) = List.replicate k [0, 0, 0, 0] ++ [[0, 0, 0, 0]]).trans List.replicate_succ'.symm), ?_⟩
        rw [hx'.out]
        exact (H.pick (M := [.int (⟨some ⟨bm, 0, none⟩, 4, List.replicate 4 0⟩ : Sl Int), .many En.int d.xs, .rows d']) (.cons (by repeat (first | exact Take.head | apply Take.tail)) (.cons (by repeat (first | exact Take.head | apply Take.tail)) (.cons (by repeat (first | exact Take.head | apply Take.tail)) .nil)))).many_snoc.perm (List.Perm.swap _ _ _)
      case measure => simp [intOf]; omega
    · have hke : k = 8 := by omega
      subst hke
      go_wp2_with (first
        | go_skip
        | ((with_reducible refine at_box ?_); first | (refine wpList_box_H rfl rfl H rfl (by first | exact CellsOf.agg | exact CellsOf.int | exact CellsOf.bool | exact CellsOf.slice | exact CellsOf.string | exact CellsOf.pointer | exact CellsOf.func) ?_; clear H; intro b w H))
        | ((with_reducible refine at_alloc ?_); first | (refine wpList_alloc_H rfl rfl H ?_; clear H; intro b w H))
        | ((with_reducible refine at_load ?_); first | (refine wpList_load_H rfl rfl H rfl (by repeat (first | exact LoadAt.here rfl | apply LoadAt.there)) ?_) | (refine wpList_loads_H rfl rfl H rfl (by repeat (first | (apply LoadsAt.here; repeat (first | exact GetsAt.nil | apply GetsAt.here | apply GetsAt.there)) | apply LoadsAt.there)) ?_))
        | ((with_reducible refine at_store ?_); first | (refine wpList_store_H rfl rfl H rfl rfl (by repeat (first | (apply StoreAt.here; (first | exact CellsOf.agg | exact CellsOf.int | exact CellsOf.bool | exact CellsOf.slice | exact CellsOf.string | exact CellsOf.pointer | exact CellsOf.func); (repeat (first | exact SetsAt.nil | apply SetsAt.here | apply SetsAt.there)); exact rfl; exact rfl) | apply StoreAt.there)) ?_; clear H; intro w H))
        | (go_at_call 179; refine (specBrought8_c _).mono ?_; rintro e w ⟨rfl, K⟩; replace H := H.add_all K; clear K))
      go_ret
      exact ⟨d, rfl, HD.out, H.pick (.cons (by repeat (first | exact Take.head | apply Take.tail)) (.cons (by repeat (first | exact Take.head | apply Take.tail)) .nil))⟩
end Go.Proofs.Ytgeoilpmmdfemaa
