/- Contracts of PostIrq and of the program's ways to change a guest of a bare machine. No condition but that the arguments lie in memory. -/
import Derived.Test.YtaafnenmdombiaaBv
namespace Go.Proofs.Ytaafnenmdombiaa
set_option linter.unusedSimpArgs false
set_option linter.unusedVariables false
open Go.RowKit
def postOkM (p n : Int) : Bool := pendB p && inB n 0 7
def postM (p n : Int) : Int := if postOkM p n then bits .or .i64 p (wrap64 (2 ^ n.toNat)) else p
section
variable {P : Program} {ops : Array Oper} {rest : List Oper} {S : World → Prop} {o : Oper} {a : Act} {w0 w : World} {L L' : List En} {Q : Go.Exit → Act → World → Prop} {K : Act → World → Prop}
theorem Rw.at_ {b e : Nat} {cs : Array Value} (h : Rw w0 b e cs) (H : Hp w0 w L) : Rw w b e cs := h.keep (H.below.block b h.lt)
end
set_option linter.unusedSimpArgs false in
set_option linter.unusedVariables false in
set_option maxRecDepth 100000 in
set_option maxHeartbeats 4000000 in
theorem postIrq_c (p n : Int) (W0 : World) : Calls Try.prog 43 #[.int .i64 p, .int .i64 n] W0 fun e w' => e = .returned (.tuple #[.int .i64 (postM p n), .bool (postOkM p n)]) ∧ Hp W0 w' [] := by
  have ho : postOkM p n = (pendB p && inB n 0 7) := rfl
  cases e1 : pendB p <;> cases e2 : inB n 0 7
  all_goals
    rw [e1, e2] at ho
    try (have hn : 0 ≤ n ∧ n ≤ 7 := by simpa [inB] using e2)
    try (have hp : 0 ≤ p ∧ p ≤ 255 := by simpa [pendB, inB] using e1)
    try obtain ⟨hn0, hn7⟩ := hn
    try obtain ⟨hp0, hp7⟩ := hp
    have HO := Lib.hid ho
    clear ho
    have H := Hp.start W0
    go_enter Try.func43, Try.ntmps43
    go_wp2_with (first
      | go_skip
      | ((with_reducible refine at_box ?_); first | (refine wpList_box_H rfl rfl H rfl (by first | exact CellsOf.agg | exact CellsOf.int | exact CellsOf.bool | exact CellsOf.slice | exact CellsOf.string | exact CellsOf.pointer | exact CellsOf.func) ?_; clear H; intro b w H))
      | ((with_reducible refine at_alloc ?_); first | (refine wpList_alloc_H rfl rfl H ?_; clear H; intro b w H))
      | ((with_reducible refine at_load ?_); first | (refine wpList_load_H rfl rfl H rfl (by repeat (first | exact LoadAt.here rfl | apply LoadAt.there)) ?_) | (refine wpList_loads_H rfl rfl H rfl (by repeat (first | (apply LoadsAt.here; repeat (first | exact GetsAt.nil | apply GetsAt.here | apply GetsAt.there)) | apply LoadsAt.there)) ?_))
      | ((with_reducible refine at_store ?_); first | (refine wpList_store_H rfl rfl H rfl rfl (by repeat (first | (apply StoreAt.here; (first | exact CellsOf.agg | exact CellsOf.int | exact CellsOf.bool | exact CellsOf.slice | exact CellsOf.string | exact CellsOf.pointer | exact CellsOf.func); (repeat (first | exact SetsAt.nil | apply SetsAt.here | apply SetsAt.there)); exact rfl; exact rfl) | apply StoreAt.there)) ?_; clear H; intro w H))
      | (go_at_call 59; refine (pendOk_any _ _).mono ?_; rintro e w' ⟨he, hw⟩; subst hw; rw [e1] at he; subst he)
      | (go_at_call 31; refine (within_any _ _ _ _).mono ?_; rintro e w' ⟨he, hw⟩; subst hw; rw [e2] at he; subst he))
    go_ret2
    refine ⟨?_, H⟩
    rw [HO.out]; unfold postM; rw [HO.out]; rfl
set_option linter.unusedSimpArgs false in
set_option linter.unusedVariables false in
set_option maxRecDepth 100000 in
set_option maxHeartbeats 4000000 in
theorem specPostIrq_c (p n : Int) (W0 : World) : Calls Try.prog 44 #[.int .i64 p, .int .i64 n] W0 fun e w' => e = .returned (.tuple #[.int .i64 (postM p n), .bool (postOkM p n)]) ∧ Hp W0 w' [] := by
  have ho : postOkM p n = (pendB p && inB n 0 7) := rfl
  cases e1 : pendB p <;> cases e2 : inB n 0 7
  all_goals
    rw [e1, e2] at ho
    try (have hn : 0 ≤ n ∧ n ≤ 7 := by simpa [inB] using e2)
    try (have hp : 0 ≤ p ∧ p ≤ 255 := by simpa [pendB, inB] using e1)
    try obtain ⟨hn0, hn7⟩ := hn
    try obtain ⟨hp0, hp7⟩ := hp
    have HO := Lib.hid ho
    clear ho
    have H := Hp.start W0
    go_enter Try.func44, Try.ntmps44
    go_wp2_with (first
      | go_skip
      | ((with_reducible refine at_box ?_); first | (refine wpList_box_H rfl rfl H rfl (by first | exact CellsOf.agg | exact CellsOf.int | exact CellsOf.bool | exact CellsOf.slice | exact CellsOf.string | exact CellsOf.pointer | exact CellsOf.func) ?_; clear H; intro b w H))
      | ((with_reducible refine at_alloc ?_); first | (refine wpList_alloc_H rfl rfl H ?_; clear H; intro b w H))
      | ((with_reducible refine at_load ?_); first | (refine wpList_load_H rfl rfl H rfl (by repeat (first | exact LoadAt.here rfl | apply LoadAt.there)) ?_) | (refine wpList_loads_H rfl rfl H rfl (by repeat (first | (apply LoadsAt.here; repeat (first | exact GetsAt.nil | apply GetsAt.here | apply GetsAt.there)) | apply LoadsAt.there)) ?_))
      | ((with_reducible refine at_store ?_); first | (refine wpList_store_H rfl rfl H rfl rfl (by repeat (first | (apply StoreAt.here; (first | exact CellsOf.agg | exact CellsOf.int | exact CellsOf.bool | exact CellsOf.slice | exact CellsOf.string | exact CellsOf.pointer | exact CellsOf.func); (repeat (first | exact SetsAt.nil | apply SetsAt.here | apply SetsAt.there)); exact rfl; exact rfl) | apply StoreAt.there)) ?_; clear H; intro w H))
      | (go_at_call 64; refine (specPendOk_any _ _).mono ?_; rintro e w' ⟨he, hw⟩; subst hw; rw [e1] at he; subst he)
      | (go_at_call 35; refine (in_any _ _ _ _).mono ?_; rintro e w' ⟨he, hw⟩; subst hw; rw [e2] at he; subst he))
    go_ret2
    refine ⟨?_, H⟩
    rw [HO.out]; unfold postM; rw [HO.out]; rfl
end Go.Proofs.Ytaafnenmdombiaa
