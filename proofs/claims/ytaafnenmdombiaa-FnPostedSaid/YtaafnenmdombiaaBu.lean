/- Contracts of the walk through an inner table, and of BareRead and BarePoke, of the program and of the reference. No condition but that the arguments lie in memory. -/
import Derived.Test.YtaafnenmdombiaaBt
import Derived.Test.YtaafnenmdombiaaBo
namespace Go.Proofs.Ytaafnenmdombiaa
set_option linter.unusedSimpArgs false
set_option linter.unusedVariables false
open Go.RowKit
def pokeOkM (m : MB) (p c v : Int) : Bool := bareOkM m && hasB p 8 && hasB c 4 && inB v 0 99
def pokeM (m : MB) (p c v : Int) : MB := if pokeOkM m p c v then { m with memory := withCellM m.memory p c v } else m
theorem in8 (x : Int) : inB x 0 7 = hasB x 8 := hasB_in x 8
theorem in4 (x : Int) : inB x 0 3 = hasB x 4 := hasB_in x 4
set_option linter.unusedSimpArgs false in
set_option linter.unusedVariables false in
set_option maxRecDepth 100000 in
set_option maxHeartbeats 4000000 in
theorem poke_c (B : BV) (p c v : Int) (W0 : World) (R : BRd W0 B) (Z : BBig B) : Calls Try.prog 7 #[B.val, .int .i64 p, .int .i64 c, .int .i64 v] W0 fun e w' => ∃ d : BV, e = .returned (.tuple #[d.val, .bool (pokeOkM B.m p c v)]) ∧ d.m = pokeM B.m p c v ∧ Hp W0 w' [.bare d] := by
  cases e1 : bareOkM B.m <;> cases e2 : hasB p 8 <;> cases e3 : hasB c 4 <;> cases e4 : inB v 0 99
  all_goals
    have HO : Hid (pokeOkM B.m p c v = _) := Lib.hid (show pokeOkM B.m p c v = _ by unfold pokeOkM; rw [e1, e2, e3, e4])
    have HOV := HO.out
    simp only [Bool.and_true, Bool.and_false, Bool.true_and, Bool.false_and] at HOV
    clear HO
    have HO := Lib.hid HOV
    clear HOV
    have H := Hp.start W0
    go_enter Try.func7, Try.ntmps7
    go_wp2_with (first
      | go_skip
      | ((with_reducible refine at_box ?_); first | (refine wpList_box_H rfl rfl H rfl (by first | exact CellsOf.agg | exact CellsOf.int | exact CellsOf.bool | exact CellsOf.slice | exact CellsOf.string | exact CellsOf.pointer | exact CellsOf.func) ?_; clear H; intro bB w H))
      | ((with_reducible refine at_alloc ?_); first | ((with_reducible refine at_dst 8 ?_); refine wpList_alloc_H rfl rfl H ?_; clear H; intro bR w H) | (refine wpList_alloc_H rfl rfl H ?_; clear H; intro bO w H))
      | ((with_reducible refine at_load ?_); first | (refine wpList_load_H rfl rfl H rfl (by repeat (first | exact LoadAt.here rfl | apply LoadAt.there)) ?_) | (refine wpList_loads_H rfl rfl H rfl (by repeat (first | (apply LoadsAt.here; repeat (first | exact GetsAt.nil | apply GetsAt.here | apply GetsAt.there)) | apply LoadsAt.there)) ?_))
      | ((with_reducible refine at_store ?_); first | (refine wpList_store_H rfl rfl H rfl rfl (by repeat (first | (apply StoreAt.here; (first | exact CellsOf.agg | exact CellsOf.int | exact CellsOf.bool | exact CellsOf.slice | exact CellsOf.string | exact CellsOf.pointer | exact CellsOf.func); (repeat (first | exact SetsAt.nil | apply SetsAt.here | apply SetsAt.there)); exact rfl; exact rfl) | apply StoreAt.there)) ?_; clear H; intro w H))
      | (go_at_call 28; refine (copyBare_c B _ (R.at_ H) Z).mono ?_; rintro e w ⟨d, rfl, x1, K⟩; have HD := Lib.hid x1; clear x1; have Zd := m_big HD Z; replace H := H.add_all K; clear K)
      | (go_at_call 29; refine (bareOk_c B _ (R.at_ H) Z).mono ?_; rintro e w ⟨he, K⟩; rw [e1] at he; subst he; replace H := H.add_all K; clear K)
      | (go_at_call 30; refine (has_any _ _ _).mono ?_; rintro e w' ⟨he, hw⟩; subst hw; rw [e2] at he; subst he)
      | (go_at_call 30; refine (has_any _ _ _).mono ?_; rintro e w' ⟨he, hw⟩; subst hw; rw [e3] at he; subst he)
      | (go_at_call 31; refine (within_any _ _ _ _).mono ?_; rintro e w' ⟨he, hw⟩; subst hw; rw [e4] at he; subst he)
      | (go_at_call 32; refine (withCell_c B.mem p c v _ (R.mem.at_ H) (fun x hx => (R.memi x hx).at_ H) Z.mem Z.memi).mono ?_; rintro e w ⟨q, rfl, x1, K⟩; have HQ := Lib.hid x1; clear x1; replace H := H.add_all K; clear K; replace H := (H.take (e := .bare d) (by repeat (first | exact Take.head | apply Take.tail))).bparts))
    first
      | (refine bodyPost_ret (results_H2 rfl H rfl (by repeat (first | (apply LoadsAt.here; repeat (first | exact GetsAt.nil | apply GetsAt.here | apply GetsAt.there)) | apply LoadsAt.there))) rfl ⟨d, by rw [HO.out]; rfl, by unfold pokeM; rw [HO.out]; exact HD.out, H.pick (.cons (by repeat (first | exact Take.head | apply Take.tail)) .nil)⟩)
      | (refine bodyPost_ret (results_H2 rfl H rfl (by repeat (first | (apply LoadsAt.here; repeat (first | exact GetsAt.nil | apply GetsAt.here | apply GetsAt.there)) | apply LoadsAt.there))) rfl ⟨⟨q, d.gs, d.outs, d.pend⟩, by rw [HO.out]; rfl, ?_, H.bare5 (.cons (by repeat (first | exact Take.head | apply Take.tail)) (.cons (by repeat (first | exact Take.head | apply Take.tail)) (.cons (by repeat (first | exact Take.head | apply Take.tail)) (.cons (by repeat (first | exact Take.head | apply Take.tail)) (.cons (by repeat (first | exact Take.head | apply Take.tail)) .nil))))) rfl rfl⟩
         unfold pokeM; rw [HO.out]; simp only [BV.m, memOf, if_true]; rw [HQ.out]
         have h := HD.out
         simp only [BV.m, MB.mk.injEq, memOf] at h
         obtain ⟨h1, h2, h3, h4⟩ := h
         simp only [memOf, h1, h2, h3, h4])
set_option linter.unusedSimpArgs false in
set_option linter.unusedVariables false in
set_option maxRecDepth 100000 in
set_option maxHeartbeats 4000000 in
theorem specPoke_c (B : BV) (p c v : Int) (W0 : World) (R : BRd W0 B) (Z : BBig B) : Calls Try.prog 8 #[B.val, .int .i64 p, .int .i64 c, .int .i64 v] W0 fun e w' => ∃ d : BV, e = .returned (.tuple #[d.val, .bool (pokeOkM B.m p c v)]) ∧ d.m = pokeM B.m p c v ∧ Hp W0 w' [.bare d] := by
  cases e1 : bareOkM B.m <;> cases e2 : hasB p 8 <;> cases e3 : hasB c 4 <;> cases e4 : inB v 0 99
  all_goals
    have HO : Hid (pokeOkM B.m p c v = _) := Lib.hid (show pokeOkM B.m p c v = _ by unfold pokeOkM; rw [e1, e2, e3, e4])
    have HOV := HO.out
    simp only [Bool.and_true, Bool.and_false, Bool.true_and, Bool.false_and] at HOV
    clear HO
    have HO := Lib.hid HOV
    clear HOV
    have H := Hp.start W0
    go_enter Try.func8, Try.ntmps8
    go_wp2_with (first
      | go_skip
      | ((with_reducible refine at_box ?_); first | (refine wpList_box_H rfl rfl H rfl (by first | exact CellsOf.agg | exact CellsOf.int | exact CellsOf.bool | exact CellsOf.slice | exact CellsOf.string | exact CellsOf.pointer | exact CellsOf.func) ?_; clear H; intro bB w H))
      | ((with_reducible refine at_alloc ?_); first | ((with_reducible refine at_dst 8 ?_); refine wpList_alloc_H rfl rfl H ?_; clear H; intro bR w H) | (refine wpList_alloc_H rfl rfl H ?_; clear H; intro bO w H))
      | ((with_reducible refine at_load ?_); first | (refine wpList_load_H rfl rfl H rfl (by repeat (first | exact LoadAt.here rfl | apply LoadAt.there)) ?_) | (refine wpList_loads_H rfl rfl H rfl (by repeat (first | (apply LoadsAt.here; repeat (first | exact GetsAt.nil | apply GetsAt.here | apply GetsAt.there)) | apply LoadsAt.there)) ?_))
      | ((with_reducible refine at_store ?_); first | (refine wpList_store_H rfl rfl H rfl rfl (by repeat (first | (apply StoreAt.here; (first | exact CellsOf.agg | exact CellsOf.int | exact CellsOf.bool | exact CellsOf.slice | exact CellsOf.string | exact CellsOf.pointer | exact CellsOf.func); (repeat (first | exact SetsAt.nil | apply SetsAt.here | apply SetsAt.there)); exact rfl; exact rfl) | apply StoreAt.there)) ?_; clear H; intro w H))
      | (go_at_call 33; refine (l17Copy_c B _ (R.at_ H) Z).mono ?_; rintro e w ⟨d, rfl, x1, K⟩; have HD := Lib.hid x1; clear x1; have Zd := m_big HD Z; replace H := H.add_all K; clear K)
      | (go_at_call 34; refine (specBareOk_c d _ (H.brd (by repeat (first | exact Take.head | apply Take.tail))) Zd).mono ?_; rintro e w ⟨he, K⟩; rw [HD.out, e1] at he; subst he; replace H := H.add_all K; clear K)
      | (go_at_call 35; refine (in_any _ _ _ _).mono ?_; rintro e w' ⟨he, hw⟩; subst hw; rw [in8, e2] at he; subst he)
      | (go_at_call 35; refine (in_any _ _ _ _).mono ?_; rintro e w' ⟨he, hw⟩; subst hw; rw [in4, e3] at he; subst he)
      | (go_at_call 35; refine (in_any _ _ _ _).mono ?_; rintro e w' ⟨he, hw⟩; subst hw; rw [e4] at he; subst he)
      | (go_at_call 36; refine (specWithCell_c d.mem p c v _ (H.brd (b := d) (by repeat (first | exact Take.head | apply Take.tail))).mem (H.brd (b := d) (by repeat (first | exact Take.head | apply Take.tail))).memi Zd.mem Zd.memi).mono ?_; rintro e w ⟨q, rfl, x1, K⟩; have HQ := Lib.hid x1; clear x1; replace H := H.add_all K; clear K; replace H := (H.take (e := .bare d) (by repeat (first | exact Take.head | apply Take.tail))).bparts))
    first
      | (refine bodyPost_ret (results_H2 rfl H rfl (by repeat (first | (apply LoadsAt.here; repeat (first | exact GetsAt.nil | apply GetsAt.here | apply GetsAt.there)) | apply LoadsAt.there))) rfl ⟨d, by rw [HO.out]; rfl, by unfold pokeM; rw [HO.out]; exact HD.out, H.pick (.cons (by repeat (first | exact Take.head | apply Take.tail)) .nil)⟩)
      | (refine bodyPost_ret (results_H2 rfl H rfl (by repeat (first | (apply LoadsAt.here; repeat (first | exact GetsAt.nil | apply GetsAt.here | apply GetsAt.there)) | apply LoadsAt.there))) rfl ⟨⟨q, d.gs, d.outs, d.pend⟩, by rw [HO.out]; rfl, ?_, H.bare5 (.cons (by repeat (first | exact Take.head | apply Take.tail)) (.cons (by repeat (first | exact Take.head | apply Take.tail)) (.cons (by repeat (first | exact Take.head | apply Take.tail)) (.cons (by repeat (first | exact Take.head | apply Take.tail)) (.cons (by repeat (first | exact Take.head | apply Take.tail)) .nil))))) rfl rfl⟩
         unfold pokeM; rw [HO.out]; simp only [BV.m, memOf, if_true]; rw [HQ.out]
         have h := HD.out
         simp only [BV.m, MB.mk.injEq, memOf] at h
         obtain ⟨h1, h2, h3, h4⟩ := h
         simp only [memOf, h1, h2, h3, h4])
end Go.Proofs.Ytaafnenmdombiaa
