/- Walk of the law FnDmaLoad. No condition but that the argument lies in memory. -/
import Derived.Test.YtjiiobliadeldaaUa
import Derived.Test.YtjiiobliadeldaaQr
namespace Go.Proofs.Ytjiiobliadeldaa
open Go.RowKit
attribute [local go_sem ↓] Go.wp_at_zero Go.wp_at_succ
set_option linter.unusedSimpArgs false in
set_option linter.unusedVariables false in
set_option maxRecDepth 100000 in
set_option maxHeartbeats 4000000 in
theorem bareDma_c (B : BV) (g a v : Int) (ha : a ≤ 9223372036854775807) (ha' : -9223372036854775808 ≤ a) (W0 : World) (R : BRd W0 B) (Z : BBig B) : Calls Try.prog 21 #[B.val, .int .i64 g, .int .i64 a, .int .i64 v] W0 fun e w' => ∃ d : BV, e = .returned (.tuple #[d.val, .bool (dmaOkM B.m g a v)]) ∧ d.m = dmaM B.m g a v ∧ Hp W0 w' [.bare d] := by
  obtain ⟨pg, hpg⟩ : ∃ x, reachPM B.m g a 2 = x := ⟨_, rfl⟩
  obtain ⟨pc, hpc⟩ : ∃ x, reachCM B.m g a = x := ⟨_, rfl⟩
  have HPG := Lib.hid hpg; have HPC := Lib.hid hpc; clear hpg hpc
  cases e1 : reachBM B.m g a 2 <;> cases e2 : inB v 0 99
  all_goals
    have HO : Hid (dmaOkM B.m g a v = _) := Lib.hid (show dmaOkM B.m g a v = _ by unfold dmaOkM; rw [e1, e2])
    have HOV := HO.out
    simp only [Bool.and_true, Bool.and_false, Bool.true_and, Bool.false_and] at HOV
    clear HO
    have HO := Lib.hid HOV
    clear HOV
    have H := Hp.start W0
    go_enter Try.func21, Try.ntmps21
    go_wp2_with (first
      | go_skip
      | ((with_reducible refine at_box ?_); first | (refine wpList_box_H rfl rfl H rfl (by first | exact CellsOf.agg | exact CellsOf.int | exact CellsOf.bool | exact CellsOf.slice | exact CellsOf.string | exact CellsOf.pointer | exact CellsOf.func) ?_; clear H; intro bB w H))
      | ((with_reducible refine at_alloc ?_); first | ((with_reducible refine at_dst 8 ?_); refine wpList_alloc_H rfl rfl H ?_; clear H; intro bR w H) | (refine wpList_alloc_H rfl rfl H ?_; clear H; intro bO w H) | (refine wpList_alloc_H rfl rfl H ?_; clear H; intro bZ w H))
      | ((with_reducible refine at_load ?_); first | (refine wpList_load_H rfl rfl H rfl (by repeat (first | exact LoadAt.here rfl | apply LoadAt.there)) ?_) | (refine wpList_loads_H rfl rfl H rfl (by repeat (first | (apply LoadsAt.here; repeat (first | exact GetsAt.nil | apply GetsAt.here | apply GetsAt.there)) | apply LoadsAt.there)) ?_))
      | ((with_reducible refine at_store ?_); first | (refine wpList_store_H rfl rfl H rfl rfl (by repeat (first | (apply StoreAt.here; (first | exact CellsOf.agg | exact CellsOf.int | exact CellsOf.bool | exact CellsOf.slice | exact CellsOf.string | exact CellsOf.pointer | exact CellsOf.func); (repeat (first | exact SetsAt.nil | apply SetsAt.here | apply SetsAt.there)); exact rfl; exact rfl) | apply StoreAt.there)) ?_; clear H; intro w H))
      | (go_at_call 51; refine (copyBare_c B _ (R.at_ H) Z).mono ?_; rintro e w ⟨d, rfl, x1, K⟩; have HD := Lib.hid x1; clear x1; have Zd := m_big HD Z; replace H := H.add_all K; clear K)
      | (go_at_call 74; refine (reach_c B g a 2 ha ha' _ (R.at_ H) Z).mono ?_; rintro e w ⟨he, K⟩; rw [HPG.out, HPC.out, e1] at he; subst he; replace H := H.add_all K; clear K)
      | (go_at_call 75; refine (within_any _ _ _ _).mono ?_; rintro e w' ⟨he, hw⟩; subst hw; rw [e2] at he; subst he)
      | (go_at_call 62; refine (withCell_c B.mem pg pc v _ (R.mem.at_ H) (fun x hx => (R.memi x hx).at_ H) Z.mem Z.memi).mono ?_; rintro e w ⟨q, rfl, x1, K⟩; have HQ := Lib.hid x1; clear x1; replace H := H.add_all K; clear K; replace H := (H.take (e := .bare d) (by repeat (first | exact Take.head | apply Take.tail))).bparts))
    first
      | (refine bodyPost_ret (results_H2 rfl H rfl (by repeat (first | (apply LoadsAt.here; repeat (first | exact GetsAt.nil | apply GetsAt.here | apply GetsAt.there)) | apply LoadsAt.there))) rfl ⟨d, by rw [HO.out]; rfl, by unfold dmaM; rw [HO.out]; exact HD.out, H.pick (.cons (by repeat (first | exact Take.head | apply Take.tail)) .nil)⟩)
      | (refine bodyPost_ret (results_H2 rfl H rfl (by repeat (first | (apply LoadsAt.here; repeat (first | exact GetsAt.nil | apply GetsAt.here | apply GetsAt.there)) | apply LoadsAt.there))) rfl ⟨⟨q, d.gs, d.outs, d.pend⟩, by rw [HO.out]; rfl, ?_, H.bare5 (.cons (by repeat (first | exact Take.head | apply Take.tail)) (.cons (by repeat (first | exact Take.head | apply Take.tail)) (.cons (by repeat (first | exact Take.head | apply Take.tail)) (.cons (by repeat (first | exact Take.head | apply Take.tail)) (.cons (by repeat (first | exact Take.head | apply Take.tail)) .nil))))) rfl rfl⟩
         unfold dmaM; rw [HO.out]; simp only [BV.m, memOf, if_true]; rw [HQ.out]
         have h := HD.out
         simp only [BV.m, MB.mk.injEq, memOf] at h
         obtain ⟨h1, h2, h3, h4⟩ := h
         have hp : reachPM (BV.m B) g a 2 = pg := HPG.out
         have hc : reachCM (BV.m B) g a = pc := HPC.out
         simp only [BV.m, memOf] at hp hc
         simp only [memOf, h1, h2, h3, h4, hp, hc])
set_option linter.unusedSimpArgs false in
set_option linter.unusedVariables false in
set_option maxRecDepth 100000 in
set_option maxHeartbeats 8000000 in
theorem walk_fnDmaLoad (s : Sl Int) (W0 : World) (ra : Rd u8cell 1 W0 s ∧ s.xs.length ≤ maxLen) : Calls Try.prog 5 #[.slice s.A s.xs.length s.c] W0 fun e w' => e = .returned (.bool true) ∧ Below W0.heap.size W0 w' := by
  obtain ⟨R, _⟩ := ra
  have H := Hp.start W0
  by_cases hbig : 1048576 < s.xs.length
  · have hb : decide (1048576 < s.xs.length) = true := decide_eq_true hbig
    have HB := Lib.hid hb; clear hb
    go_enter Try.func5, Try.ntmps5
    go_wp2_with (first
      | go_skip
      | ((with_reducible refine at_box ?_); first | (refine wpList_box_H rfl rfl H rfl (by first | exact CellsOf.agg | exact CellsOf.int | exact CellsOf.bool | exact CellsOf.slice | exact CellsOf.string | exact CellsOf.pointer | exact CellsOf.func) ?_; clear H; intro bQ w H))
      | ((with_reducible refine at_alloc ?_); first | (refine wpList_alloc_H rfl rfl H ?_; clear H; intro b w H))
      | ((with_reducible refine at_load ?_); first | (refine wpList_load_H rfl rfl H rfl (by repeat (first | exact LoadAt.here rfl | apply LoadAt.there)) ?_) | (refine wpList_loads_H rfl rfl H rfl (by repeat (first | (apply LoadsAt.here; repeat (first | exact GetsAt.nil | apply GetsAt.here | apply GetsAt.there)) | apply LoadsAt.there)) ?_))
      | ((with_reducible refine at_store ?_); first | (refine wpList_store_H rfl rfl H rfl rfl (by repeat (first | (apply StoreAt.here; (first | exact CellsOf.agg | exact CellsOf.int | exact CellsOf.bool | exact CellsOf.slice | exact CellsOf.string | exact CellsOf.pointer | exact CellsOf.func); (repeat (first | exact SetsAt.nil | apply SetsAt.here | apply SetsAt.there)); exact rfl; exact rfl) | apply StoreAt.there)) ?_; clear H; intro w H)))
    go_at_call 10
    refine (big_c s _).mono ?_
    rintro e w ⟨he, K⟩
    rw [HB.out] at he
    subst he
    replace H := H.add_all K
    clear K
    go_wp2_with (first
      | go_skip
      | ((with_reducible refine at_box ?_); first | (refine wpList_box_H rfl rfl H rfl (by first | exact CellsOf.agg | exact CellsOf.int | exact CellsOf.bool | exact CellsOf.slice | exact CellsOf.string | exact CellsOf.pointer | exact CellsOf.func) ?_; clear H; intro bQ w H))
      | ((with_reducible refine at_alloc ?_); first | (refine wpList_alloc_H rfl rfl H ?_; clear H; intro b w H))
      | ((with_reducible refine at_load ?_); first | (refine wpList_load_H rfl rfl H rfl (by repeat (first | exact LoadAt.here rfl | apply LoadAt.there)) ?_) | (refine wpList_loads_H rfl rfl H rfl (by repeat (first | (apply LoadsAt.here; repeat (first | exact GetsAt.nil | apply GetsAt.here | apply GetsAt.there)) | apply LoadsAt.there)) ?_))
      | ((with_reducible refine at_store ?_); first | (refine wpList_store_H rfl rfl H rfl rfl (by repeat (first | (apply StoreAt.here; (first | exact CellsOf.agg | exact CellsOf.int | exact CellsOf.bool | exact CellsOf.slice | exact CellsOf.string | exact CellsOf.pointer | exact CellsOf.func); (repeat (first | exact SetsAt.nil | apply SetsAt.here | apply SetsAt.there)); exact rfl; exact rfl) | apply StoreAt.there)) ?_; clear H; intro w H)))
    go_ret
    exact ⟨rfl, H.below⟩
  have hb : decide (1048576 < s.xs.length) = false := decide_eq_false hbig
  have HB := Lib.hid hb; clear hb
  have Z : s.xs.length ≤ 1048576 := by omega
  clear hbig
  go_enter Try.func5, Try.ntmps5
  go_wp2_with (first
    | go_skip
    | ((with_reducible refine at_box ?_); first | (refine wpList_box_H rfl rfl H rfl (by first | exact CellsOf.agg | exact CellsOf.int | exact CellsOf.bool | exact CellsOf.slice | exact CellsOf.string | exact CellsOf.pointer | exact CellsOf.func) ?_; clear H; intro bQ w H))
    | ((with_reducible refine at_alloc ?_); first | (refine wpList_alloc_H rfl rfl H ?_; clear H; intro b w H))
    | ((with_reducible refine at_load ?_); first | (refine wpList_load_H rfl rfl H rfl (by repeat (first | exact LoadAt.here rfl | apply LoadAt.there)) ?_) | (refine wpList_loads_H rfl rfl H rfl (by repeat (first | (apply LoadsAt.here; repeat (first | exact GetsAt.nil | apply GetsAt.here | apply GetsAt.there)) | apply LoadsAt.there)) ?_))
    | ((with_reducible refine at_store ?_); first | (refine wpList_store_H rfl rfl H rfl rfl (by repeat (first | (apply StoreAt.here; (first | exact CellsOf.agg | exact CellsOf.int | exact CellsOf.bool | exact CellsOf.slice | exact CellsOf.string | exact CellsOf.pointer | exact CellsOf.func); (repeat (first | exact SetsAt.nil | apply SetsAt.here | apply SetsAt.there)); exact rfl; exact rfl) | apply StoreAt.there)) ?_; clear H; intro w H)))
  go_at_call 10
  refine (big_c s _).mono ?_
  rintro e w ⟨he, K⟩
  rw [HB.out] at he
  subst he
  replace H := H.add_all K
  clear K
  go_wp2_with (first
    | go_skip
    | ((with_reducible refine at_box ?_); first | (refine wpList_box_H rfl rfl H rfl (by first | exact CellsOf.agg | exact CellsOf.int | exact CellsOf.bool | exact CellsOf.slice | exact CellsOf.string | exact CellsOf.pointer | exact CellsOf.func) ?_; clear H; intro bQ w H))
    | ((with_reducible refine at_alloc ?_); first | (refine wpList_alloc_H rfl rfl H ?_; clear H; intro b w H))
    | ((with_reducible refine at_load ?_); first | (refine wpList_load_H rfl rfl H rfl (by repeat (first | exact LoadAt.here rfl | apply LoadAt.there)) ?_) | (refine wpList_loads_H rfl rfl H rfl (by repeat (first | (apply LoadsAt.here; repeat (first | exact GetsAt.nil | apply GetsAt.here | apply GetsAt.there)) | apply LoadsAt.there)) ?_))
    | ((with_reducible refine at_store ?_); first | (refine wpList_store_H rfl rfl H rfl rfl (by repeat (first | (apply StoreAt.here; (first | exact CellsOf.agg | exact CellsOf.int | exact CellsOf.bool | exact CellsOf.slice | exact CellsOf.string | exact CellsOf.pointer | exact CellsOf.func); (repeat (first | exact SetsAt.nil | apply SetsAt.here | apply SetsAt.there)); exact rfl; exact rfl) | apply StoreAt.there)) ?_; clear H; intro w H)))
  go_at_call 11
  refine (drawPlaces_c s _ (R.at_ H) Z).mono ?_
  rintro e w ⟨p, rfl, hpl, hpb, K⟩
  replace H := H.add_all K
  clear K
  obtain ⟨p0, hp0e⟩ : ∃ p0, p.xs[0]? = some p0 := ⟨_, List.getElem?_eq_getElem (by omega)⟩
  have HP0 := Lib.hid hp0e
  have hpp0 := hpb p0 (List.mem_of_getElem? hp0e)
  have hp0 : 0 < p.xs.length := by omega
  obtain ⟨p1, hp1e⟩ : ∃ p1, p.xs[1]? = some p1 := ⟨_, List.getElem?_eq_getElem (by omega)⟩
  have HP1 := Lib.hid hp1e
  have hpp1 := hpb p1 (List.mem_of_getElem? hp1e)
  have hp1 : 1 < p.xs.length := by omega
  obtain ⟨p2, hp2e⟩ : ∃ p2, p.xs[2]? = some p2 := ⟨_, List.getElem?_eq_getElem (by omega)⟩
  have HP2 := Lib.hid hp2e
  have hpp2 := hpb p2 (List.mem_of_getElem? hp2e)
  have hp2 : 2 < p.xs.length := by omega
  clear hp0e
  clear hp1e
  clear hp2e
  clear hpl hpb
  obtain ⟨a, ha⟩ : ∃ a, a = p0.tmod 16 := ⟨_, rfl⟩
  have a0 : 0 ≤ a := by rw [ha]; exact Int.tmod_nonneg _ hpp0.1
  have a1 : a < 16 := by rw [ha]; exact Int.tmod_lt_of_pos _ (by decide)
  have Ea : Hid (p0.tmod 16 = a) := ha.symm
  have Fa : Hid (p0 % 16 = a) := Lib.hid (by rw [ha, Int.tmod_eq_emod_of_nonneg hpp0.1])
  clear ha
  obtain ⟨v, hv⟩ : ∃ v, v = p1.tmod 100 := ⟨_, rfl⟩
  have v0 : 0 ≤ v := by rw [hv]; exact Int.tmod_nonneg _ hpp1.1
  have v1 : v < 100 := by rw [hv]; exact Int.tmod_lt_of_pos _ (by decide)
  have Ev : Hid (p1.tmod 100 = v) := hv.symm
  have Fv : Hid (p1 % 100 = v) := Lib.hid (by rw [hv, Int.tmod_eq_emod_of_nonneg hpp1.1])
  clear hv
  obtain ⟨j, hj⟩ : ∃ j, j = p2.tmod 4 := ⟨_, rfl⟩
  have j0 : 0 ≤ j := by rw [hj]; exact Int.tmod_nonneg _ hpp2.1
  have j1 : j < 4 := by rw [hj]; exact Int.tmod_lt_of_pos _ (by decide)
  have Ej : Hid (p2.tmod 4 = j) := hj.symm
  have Fj : Hid (p2 % 4 = j) := Lib.hid (by rw [hj, Int.tmod_eq_emod_of_nonneg hpp2.1])
  clear hj
  have L := fin3 dlL_all a0 a1 j0 j1 v0 v1
  unfold dlL at L
  simp only [Bool.and_eq_true, decide_eq_true_eq] at L
  obtain ⟨⟨⟨⟨⟨⟨⟨⟨⟨⟨⟨s0, s1⟩, s2⟩, s3⟩, s4⟩, s5⟩, s6⟩, s7⟩, lk⟩, lr⟩, lm⟩, ls⟩ := L
  replace s0 := smB_le s0
  replace s5 := smB_le s5
  replace s6 := smB_le s6
  replace s7 := smB_le s7
  have WV : Hid (IntKind.i64.wrap (v + 1) = v + 1) := Lib.hid (wrapq _ (by omega) (by omega))
  have WM : Hid ((v + 1).tmod 100 = (v + 1) % 100) := Lib.hid (Int.tmod_eq_emod_of_nonneg (by omega))
  have LK := Lib.hid lk
  clear lk
  have LR := Lib.hid lr
  clear lr
  have LM := Lib.hid lm
  clear lm
  have LS := Lib.hid ls
  clear ls
  have S0 := Lib.hid s0
  clear s0
  have S5 := Lib.hid s5
  clear s5
  have S6 := Lib.hid s6
  clear s6
  have S7 := Lib.hid s7
  clear s7
  clear hpp0 hpp1 hpp2 s1 s2 s3 s4
  go_wp2_with (first
    | go_skip
    | ((with_reducible refine at_box ?_); first | (refine wpList_box_H rfl rfl H rfl (by first | exact CellsOf.agg | exact CellsOf.int | exact CellsOf.bool | exact CellsOf.slice | exact CellsOf.string | exact CellsOf.pointer | exact CellsOf.func) ?_; clear H; intro bQ w H))
    | ((with_reducible refine at_alloc ?_); first | (refine wpList_alloc_H rfl rfl H ?_; clear H; intro bB w H))
    | ((with_reducible refine at_load ?_); first | (refine wpList_load_rd rfl rfl p (H.rd (s := p) (by repeat (first | exact Take.head | apply Take.tail)) int_len) rfl p0 HP0.out rfl ?_) | (refine wpList_load_rd rfl rfl p (H.rd (s := p) (by repeat (first | exact Take.head | apply Take.tail)) int_len) rfl p1 HP1.out rfl ?_) | (refine wpList_load_H rfl rfl H rfl (by repeat (first | exact LoadAt.here rfl | apply LoadAt.there)) ?_) | (refine wpList_loads_H rfl rfl H rfl (by repeat (first | (apply LoadsAt.here; repeat (first | exact GetsAt.nil | apply GetsAt.here | apply GetsAt.there)) | apply LoadsAt.there)) ?_))
    | ((with_reducible refine at_store ?_); first | (refine wpList_store_H rfl rfl H rfl rfl (by repeat (first | (apply StoreAt.here; (first | exact CellsOf.agg | exact CellsOf.int | exact CellsOf.bool | exact CellsOf.slice | exact CellsOf.string | exact CellsOf.pointer | exact CellsOf.func); (repeat (first | exact SetsAt.nil | apply SetsAt.here | apply SetsAt.there)); exact rfl; exact rfl) | apply StoreAt.there)) ?_; clear H; intro w H))
    | ((with_reducible refine at_index ?_); first | (refine wpList_index_n rfl rfl (k := 0) p (H.rd (s := p) (by repeat (first | exact Take.head | apply Take.tail)) int_len) rfl rfl rfl hp0 ?_) | (refine wpList_index_n rfl rfl (k := 1) p (H.rd (s := p) (by repeat (first | exact Take.head | apply Take.tail)) int_len) rfl rfl rfl hp1 ?_))
    | ((with_reducible refine at_slice ?_); first | ((with_reducible refine at_dst 29 ?_); refine wpList_lit_H rfl rfl H ([⟨3, p0.tmod 16⟩, ⟨2, 1⟩, ⟨4, p0.tmod 16⟩, ⟨7, 0⟩] : List Ins) (by kernel_rfl) rfl (by decide) (by decide) ?_; clear H; intro bi w H) | ((with_reducible refine at_dst 30 ?_); refine wpList_one_H rfl rfl H (⟨some ⟨bi, 0, none⟩, 4, [⟨3, p0.tmod 16⟩, ⟨2, 1⟩, ⟨4, p0.tmod 16⟩, ⟨7, 0⟩]⟩ : Sl Ins) rfl CellsOf.slice rfl (by decide) ?_; clear H; intro bo w H)))
  go_at_call 12
  refine (specBareNew_c (⟨some ⟨bo, 0, none⟩, 1, [(⟨some ⟨bi, 0, none⟩, 4, [⟨3, p0.tmod 16⟩, ⟨2, 1⟩, ⟨4, p0.tmod 16⟩, ⟨7, 0⟩]⟩ : Sl Ins)]⟩ : Sl (Sl Ins)) _ (H.rd (s := (⟨some ⟨bo, 0, none⟩, 1, [(⟨some ⟨bi, 0, none⟩, 4, [⟨3, p0.tmod 16⟩, ⟨2, 1⟩, ⟨4, p0.tmod 16⟩, ⟨7, 0⟩]⟩ : Sl Ins)]⟩ : Sl (Sl Ins))) (by repeat (first | exact Take.head | apply Take.tail)) h_len) (by intro x hx; rw [List.mem_singleton.1 hx]; exact H.rd (by repeat (first | exact Take.head | apply Take.tail)) ins_len) (by intro x hx; rw [List.mem_singleton.1 hx]; simp) (by simp) (by simp)).mono ?_
  rintro e w ⟨b0, rfl, x1, K⟩
  have Hb0 : Hid (b0.m = dl0 a) := Lib.hid (by rw [x1, ← Ea.out]; rfl)
  clear x1
  replace H := H.add_all K
  clear K
  have Zb0 := bbig_mq S0.out Hb0
  rw [Ea.out, Ev.out]
  go_wp2_with (first
    | go_skip
    | ((with_reducible refine at_box ?_); first | (refine wpList_box_H rfl rfl H rfl (by first | exact CellsOf.agg | exact CellsOf.int | exact CellsOf.bool | exact CellsOf.slice | exact CellsOf.string | exact CellsOf.pointer | exact CellsOf.func) ?_; clear H; intro bQ w H))
    | ((with_reducible refine at_alloc ?_); first | (refine wpList_alloc_H rfl rfl H ?_; clear H; intro bB w H))
    | ((with_reducible refine at_load ?_); first | (refine wpList_load_H rfl rfl H rfl (by repeat (first | exact LoadAt.here rfl | apply LoadAt.there)) ?_) | (refine wpList_loads_H rfl rfl H rfl (by repeat (first | (apply LoadsAt.here; repeat (first | exact GetsAt.nil | apply GetsAt.here | apply GetsAt.there)) | apply LoadsAt.there)) ?_))
    | ((with_reducible refine at_store ?_); first | (refine wpList_store_H rfl rfl H rfl rfl (by repeat (first | (apply StoreAt.here; (first | exact CellsOf.agg | exact CellsOf.int | exact CellsOf.bool | exact CellsOf.slice | exact CellsOf.string | exact CellsOf.pointer | exact CellsOf.func); (repeat (first | exact SetsAt.nil | apply SetsAt.here | apply SetsAt.there)); exact rfl; exact rfl) | apply StoreAt.there)) ?_; clear H; intro w H)))
  replace H : Hp W0 _ [.bare b0, .int p, .box bB 31 (barr b0).toList] := H.pick (.cons (by repeat (first | exact Take.head | apply Take.tail)) (.cons (by repeat (first | exact Take.head | apply Take.tail)) (.cons (by repeat (first | exact Take.head | apply Take.tail)) .nil)))
  clear Zb0
  obtain ⟨F, hF⟩ : ∃ F : Nat → MB, F = dl1 a j := ⟨_, rfl⟩
  have FL : Hid (∀ k, (F k).guests.length = 1) := Lib.hid (by intro k; rw [hF]; exact (pgW_len _ _ _).trans rfl)
  have FV : Hid (∀ k, (gAtM (F k) 0).live.length = 4) := Lib.hid (by intro k; rw [hF]; exact (pgW_live rfl _ _).trans rfl)
  have FS : Hid (∀ k, F (k + 1) = withGuestM (F k) 0 { gAtM (F k) 0 with live := (gAtM (F k) 0).live.set k (dls j k) }) := Lib.hid (by intro k; rw [hF]; rfl)
  have hb0 : b0.m = F 0 := by rw [Hb0.out, hF]; rfl
  have hF4 : dl1 a j 4 = F 4 := by rw [hF]
  clear Hb0
  have Hb0 := Lib.hid hb0
  clear hb0
  obtain ⟨G2, hG2⟩ : ∃ G : MB, G = dl2 a j v := ⟨_, rfl⟩
  obtain ⟨G3, hG3⟩ : ∃ G : MB, G = dl3 a j v := ⟨_, rfl⟩
  have F4 : Hid (dmaM (F 4) 0 a v = G2) := Lib.hid (by rw [hG2, hF]; rfl)
  replace S5 := S5.out
  rw [hF4] at S5
  replace S5 := Lib.hid S5
  replace LK := LK.out
  rw [hF4] at LK
  replace LK := Lib.hid LK
  replace S6 := S6.out
  rw [← hG2] at S6
  replace S6 := Lib.hid S6
  replace S7 := S7.out
  rw [← hG3] at S7
  replace S7 := Lib.hid S7
  replace LR := LR.out
  rw [← hG3] at LR
  replace LR := Lib.hid LR
  replace LM := LM.out
  rw [← hG3] at LM
  replace LM := Lib.hid LM
  replace LS := LS.out
  rw [← hG3] at LS
  replace LS := Lib.hid LS
  have F5 : Hid (stepsM G2 [0, 0, 0] = G3) := Lib.hid (by rw [hG2, hG3]; rfl)
  clear hF4 hF hG2 hG3
  go_loopw [7] (fun i wr => ∃ (k : Nat) (b : BV), k ≤ 4 ∧ i = .int .i64 k ∧ Hid (b.m = F k) ∧ Hp W0 wr [.bare b, .int p, .box bB 31 (barr b).toList]) (fun i _ => 4 - (intOf i).toNat)
  case atStart => exact ⟨0, b0, by omega, rfl, Hb0, H.pick (.cons (by repeat (first | exact Take.head | apply Take.tail)) (.cons (by repeat (first | exact Take.head | apply Take.tail)) (.cons (by repeat (first | exact Take.head | apply Take.tail)) .nil)))⟩
  case round =>
    clear H Hb0
    obtain ⟨k, b, hk0, rfl, Hb, H⟩ := hrel
    by_cases hk : k < 4
    · skip
      have hgl : b.gs.xs.length = 1 := by
        have h : b.m.guests.length = 1 := by rw [Hb.out]; exact FL.out k
        simpa [BV.m, gsOf] using h
      obtain ⟨y, hy⟩ : ∃ y, b.gs.xs[0]? = some y := ⟨_, List.getElem?_eq_getElem (by rw [hgl]; decide)⟩
      have HK := Lib.hid hy
      clear hy
      have hll : y.live.xs.length = 4 := by
        have h : (gAtM b.m 0).live.length = 4 := by rw [Hb.out]; exact FV.out k
        have h2 := (gAtM_hit HK.out).1
        rw [show ((0 : Nat) : Int) = 0 from rfl] at h2
        rw [h2] at h; exact h
      have hkl : k < y.live.xs.length := by rw [hll]; exact hk
      have HGL := Lib.hid hgl
      clear hgl hll
      obtain ⟨z, hz⟩ : ∃ z, y.live.xs[k]? = some z := ⟨_, List.getElem?_eq_getElem hkl⟩
      have HZ := Lib.hid hz
      clear hz
      have HW : IntKind.i64.wrap (j + (k : Int)) = j + k := wrapq _ (by omega) (by omega)
      have HWH := Lib.hid HW
      clear HW
      replace H := (H.take (e := .bare b) (by repeat (first | exact Take.head | apply Take.tail))).bparts
      obtain ⟨l1, l2, hl, hl1, H⟩ := Hp.gst_open HK.out (H.take (e := .many En.gst b.gs.xs) (by repeat (first | exact Take.head | apply Take.tail)))
      have HL := Lib.hid hl; have HL1 := Lib.hid hl1; clear hl hl1
      go_wp2_with (first
        | go_skip
        | ((with_reducible refine at_box ?_); first | (refine wpList_box_H rfl rfl H rfl (by first | exact CellsOf.agg | exact CellsOf.int | exact CellsOf.bool | exact CellsOf.slice | exact CellsOf.string | exact CellsOf.pointer | exact CellsOf.func) ?_; clear H; intro bQ w H))
        | ((with_reducible refine at_alloc ?_); first | (refine wpList_alloc_H rfl rfl H ?_; clear H; intro b w H))
        | ((with_reducible refine at_load ?_); first | (refine wpList_load_H rfl rfl H rfl (by repeat (first | exact LoadAt.here rfl | apply LoadAt.there)) ?_) | (refine wpList_loads_H rfl rfl H rfl (by repeat (first | (apply LoadsAt.here; repeat (first | exact GetsAt.nil | apply GetsAt.here | apply GetsAt.there)) | apply LoadsAt.there)) ?_))
        | ((with_reducible refine at_store ?_); first | (refine wpList_store_H rfl rfl H rfl rfl (by repeat (first | (apply StoreAt.here; (first | exact CellsOf.agg | exact CellsOf.int | exact CellsOf.bool | exact CellsOf.slice | exact CellsOf.string | exact CellsOf.pointer | exact CellsOf.func); (repeat (first | exact SetsAt.nil | apply SetsAt.here | apply SetsAt.there)); exact rfl; exact rfl) | apply StoreAt.there)) ?_; clear H; intro w H)))
      refine wp_cut (fun u a' w' => ∃ (_ : Unit), Hid True ∧ Hp W0 w' [.ins y.prog, .slot y.written, .slot ⟨y.live.A, y.live.c, y.live.xs.set k ⟨j + (k : Int), 3⟩⟩, .int y.seen, .many En.gst l1, .many En.gst l2, .gsl b.gs, .rows b.mem, .many En.int b.mem.xs, .int b.outs, .int p, .box bB 31 (barr b).toList] ∧ a' = puts u [(36, .pointer (some ⟨bB, 1, none⟩)), (37, (.slice b.gs.A b.gs.xs.length b.gs.c)), (38, (.pointer (some ⟨ablk b.gs.A, aoff b.gs.A + 0 * 15, none⟩))), (39, (.pointer (some ⟨ablk b.gs.A, aoff b.gs.A + 0 * 15 + 4, none⟩))), (40, (.slice y.live.A y.live.xs.length y.live.c)), (41, (.int .i64 k)), (42, (.slice p.A p.xs.length p.c)), (43, (.pointer (some ⟨ablk p.A, aoff p.A + 2 * 1, none⟩))), (44, (.int .i64 p2)), (45, (.int .i64 j)), (46, (.int .i64 k)), (47, (.int .i64 (j + (k : Int)))), (48, (.agg #[.int .i64 (j + (k : Int)), .int .i64 3])), (49, (.pointer (some ⟨ablk y.live.A, aoff y.live.A + k * 2, none⟩)))]) ?_ ?_
      · refine wp_region_held (S := (fun w' => Rw w' bB 31 (barr b) ∧ (Rd GV.cells 15 w' b.gs ∧ Rd icell 1 w' p))) (by kernel_rfl) ?_
        replace H := H.drew
        refine takeH (i := 0) rfl .here (by kernel_rfl) (by kernel_rfl) (by kernel_rfl) (fun _ _ _ h => absurd h.1 (by simp)) (yields_val (v := .pointer (some ⟨bB, 1, none⟩)) rfl (fun _ => by go_simp)) ⟨H.rw_ (by repeat (first | exact Take.head | apply Take.tail)), H.rdgsl (by repeat (first | exact Take.head | apply Take.tail)), H.rd (s := p) (by repeat (first | exact Take.head | apply Take.tail)) int_len⟩ ?_
        (try simp only [Act.put, List.setIfInBounds_toArray, List.set_cons_succ, List.set_cons_zero])
        refine takeH (i := 1) rfl (.there .here) (by kernel_rfl) (by kernel_rfl) (by kernel_rfl) (fun _ _ _ h => absurd h.1 (by simp)) (yields_load1_R rfl rfl rfl (fun _ hS => hS.1) rfl) ⟨H.rw_ (by repeat (first | exact Take.head | apply Take.tail)), H.rdgsl (by repeat (first | exact Take.head | apply Take.tail)), H.rd (s := p) (by repeat (first | exact Take.head | apply Take.tail)) int_len⟩ ?_
        (try simp only [Act.put, List.setIfInBounds_toArray, List.set_cons_succ, List.set_cons_zero])
        refine takeH (i := 2) rfl (.there (.there .here)) (by kernel_rfl) (by kernel_rfl) (by kernel_rfl) (fun _ _ _ h => absurd h.1 (by simp)) (yields_index_n rfl rfl (k := 0) b.gs (fun _ hS => hS.2.1) rfl rfl rfl (by rw [HGL.out]; decide)) ⟨H.rw_ (by repeat (first | exact Take.head | apply Take.tail)), H.rdgsl (by repeat (first | exact Take.head | apply Take.tail)), H.rd (s := p) (by repeat (first | exact Take.head | apply Take.tail)) int_len⟩ ?_
        (try simp only [Act.put, List.setIfInBounds_toArray, List.set_cons_succ, List.set_cons_zero])
        refine takeH (i := 3) rfl (.there (.there (.there .here))) (by kernel_rfl) (by kernel_rfl) (by kernel_rfl) (fun _ _ _ h => absurd h.1 (by simp)) (yields_val (v := (.pointer (some ⟨ablk b.gs.A, aoff b.gs.A + 0 * 15 + 4, none⟩))) rfl (fun _ => by go_simp)) ⟨H.rw_ (by repeat (first | exact Take.head | apply Take.tail)), H.rdgsl (by repeat (first | exact Take.head | apply Take.tail)), H.rd (s := p) (by repeat (first | exact Take.head | apply Take.tail)) int_len⟩ ?_
        (try simp only [Act.put, List.setIfInBounds_toArray, List.set_cons_succ, List.set_cons_zero])
        refine takeH (i := 4) rfl (.there (.there (.there (.there .here)))) (by kernel_rfl) (by kernel_rfl) (by kernel_rfl) (fun _ _ _ h => absurd h.1 (by simp)) (yields_load_rd rfl rfl b.gs (fun _ hS => hS.2.1) rfl y HK.out (by first | exact rfl | exact (Nat.add_zero _).symm) rfl) ⟨H.rw_ (by repeat (first | exact Take.head | apply Take.tail)), H.rdgsl (by repeat (first | exact Take.head | apply Take.tail)), H.rd (s := p) (by repeat (first | exact Take.head | apply Take.tail)) int_len⟩ ?_
        (try simp only [Act.put, List.setIfInBounds_toArray, List.set_cons_succ, List.set_cons_zero])
        refine takeH (i := 5) rfl (.there (.there (.there (.there (.there .here))))) (by kernel_rfl) (by kernel_rfl) (by kernel_rfl) (fun _ _ _ h => absurd h.1 (by simp)) (yields_val (v := (.int .i64 k)) rfl (fun _ => by go_simp)) ⟨H.rw_ (by repeat (first | exact Take.head | apply Take.tail)), H.rdgsl (by repeat (first | exact Take.head | apply Take.tail)), H.rd (s := p) (by repeat (first | exact Take.head | apply Take.tail)) int_len⟩ ?_
        (try simp only [Act.put, List.setIfInBounds_toArray, List.set_cons_succ, List.set_cons_zero])
        refine takeH (i := 6) rfl (.there (.there (.there (.there (.there (.there .here)))))) (by kernel_rfl) (by kernel_rfl) (by kernel_rfl) (fun _ _ _ h => absurd h.1 (by simp)) (yields_val (v := (.slice p.A p.xs.length p.c)) rfl (fun _ => by go_simp)) ⟨H.rw_ (by repeat (first | exact Take.head | apply Take.tail)), H.rdgsl (by repeat (first | exact Take.head | apply Take.tail)), H.rd (s := p) (by repeat (first | exact Take.head | apply Take.tail)) int_len⟩ ?_
        (try simp only [Act.put, List.setIfInBounds_toArray, List.set_cons_succ, List.set_cons_zero])
        refine takeH (i := 7) rfl (.there (.there (.there (.there (.there (.there (.there .here))))))) (by kernel_rfl) (by kernel_rfl) (by kernel_rfl) (fun _ _ _ h => absurd h.1 (by simp)) (yields_index_n rfl rfl (k := 2) p (fun _ hS => hS.2.2) rfl rfl rfl hp2) ⟨H.rw_ (by repeat (first | exact Take.head | apply Take.tail)), H.rdgsl (by repeat (first | exact Take.head | apply Take.tail)), H.rd (s := p) (by repeat (first | exact Take.head | apply Take.tail)) int_len⟩ ?_
        (try simp only [Act.put, List.setIfInBounds_toArray, List.set_cons_succ, List.set_cons_zero])
        refine takeH (i := 8) rfl (.there (.there (.there (.there (.there (.there (.there (.there .here)))))))) (by kernel_rfl) (by kernel_rfl) (by kernel_rfl) (fun _ _ _ h => absurd h.1 (by simp)) (yields_load_rd rfl rfl p (fun _ hS => hS.2.2) rfl p2 HP2.out (by first | exact rfl | exact (Nat.add_zero _).symm) rfl) ⟨H.rw_ (by repeat (first | exact Take.head | apply Take.tail)), H.rdgsl (by repeat (first | exact Take.head | apply Take.tail)), H.rd (s := p) (by repeat (first | exact Take.head | apply Take.tail)) int_len⟩ ?_
        (try simp only [Act.put, List.setIfInBounds_toArray, List.set_cons_succ, List.set_cons_zero])
        refine takeH (i := 9) rfl (.there (.there (.there (.there (.there (.there (.there (.there (.there .here))))))))) (by kernel_rfl) (by kernel_rfl) (by kernel_rfl) (fun _ _ _ h => absurd h.1 (by simp)) (yields_val (v := (.int .i64 j)) rfl (fun _ => by (first | (go_simp; done) | (go_simp; rw [Ej.out]) | (rw [← Ej.out]; go_simp; done) | (go_simp; omega) | (go_simp; simpa using Ej.out)))) ⟨H.rw_ (by repeat (first | exact Take.head | apply Take.tail)), H.rdgsl (by repeat (first | exact Take.head | apply Take.tail)), H.rd (s := p) (by repeat (first | exact Take.head | apply Take.tail)) int_len⟩ ?_
        (try simp only [Act.put, List.setIfInBounds_toArray, List.set_cons_succ, List.set_cons_zero])
        refine takeH (i := 10) rfl (.there (.there (.there (.there (.there (.there (.there (.there (.there (.there .here)))))))))) (by kernel_rfl) (by kernel_rfl) (by kernel_rfl) (fun _ _ _ h => absurd h.1 (by simp)) (yields_val (v := (.int .i64 k)) rfl (fun _ => by go_simp)) ⟨H.rw_ (by repeat (first | exact Take.head | apply Take.tail)), H.rdgsl (by repeat (first | exact Take.head | apply Take.tail)), H.rd (s := p) (by repeat (first | exact Take.head | apply Take.tail)) int_len⟩ ?_
        (try simp only [Act.put, List.setIfInBounds_toArray, List.set_cons_succ, List.set_cons_zero])
        refine takeH (i := 11) rfl (.there (.there (.there (.there (.there (.there (.there (.there (.there (.there (.there .here))))))))))) (by kernel_rfl) (by kernel_rfl) (by kernel_rfl) (fun _ _ _ h => absurd h.1 (by simp)) (yields_val (v := (.int .i64 (j + (k : Int)))) rfl (fun _ => by (first | (go_simp; done) | (go_simp; rw [HWH.out]) | (rw [← HWH.out]; go_simp; done) | (go_simp; omega) | (go_simp; simpa using HWH.out)))) ⟨H.rw_ (by repeat (first | exact Take.head | apply Take.tail)), H.rdgsl (by repeat (first | exact Take.head | apply Take.tail)), H.rd (s := p) (by repeat (first | exact Take.head | apply Take.tail)) int_len⟩ ?_
        (try simp only [Act.put, List.setIfInBounds_toArray, List.set_cons_succ, List.set_cons_zero])
        refine takeH (i := 12) rfl (.there (.there (.there (.there (.there (.there (.there (.there (.there (.there (.there (.there .here)))))))))))) (by kernel_rfl) (by kernel_rfl) (by kernel_rfl) (fun _ _ _ h => absurd h.1 (by simp)) (yields_val (v := (.agg #[.int .i64 (j + (k : Int)), .int .i64 3])) rfl (fun _ => by go_simp)) ⟨H.rw_ (by repeat (first | exact Take.head | apply Take.tail)), H.rdgsl (by repeat (first | exact Take.head | apply Take.tail)), H.rd (s := p) (by repeat (first | exact Take.head | apply Take.tail)) int_len⟩ ?_
        (try simp only [Act.put, List.setIfInBounds_toArray, List.set_cons_succ, List.set_cons_zero])
        refine anyH_1 (i := 13) (by kernel_rfl) ?_
        refine wpOp_at rfl (.there (.there (.there (.there (.there (.there (.there (.there (.there (.there (.there (.there (.there .here))))))))))))) rfl ?_
        refine wp_index_n (k := k) rfl y.live (H.rd (enc := Slot.cells) (sz := 2) (e := 27) (s := y.live) (by repeat (first | exact Take.head | apply Take.tail)) slot_len) rfl rfl rfl hkl ?_
        refine ⟨⟨H.rw_ (by repeat (first | exact Take.head | apply Take.tail)), H.rdgsl (by repeat (first | exact Take.head | apply Take.tail)), H.rd (s := p) (by repeat (first | exact Take.head | apply Take.tail)) int_len⟩, ?_⟩
        (try simp only [Act.put, List.setIfInBounds_toArray, List.set_cons_succ, List.set_cons_zero])
        refine anyH_1 (i := 14) (by kernel_rfl) ?_
        refine wpOp_at rfl (.there (.there (.there (.there (.there (.there (.there (.there (.there (.there (.there (.there (.there (.there .here)))))))))))))) rfl ?_
        refine wp_store_el rfl H y.live (by repeat (first | exact Take.head | apply Take.tail)) slot_len rfl rfl z ⟨j + (k : Int), 3⟩ HZ.out rfl (by first | exact CellsOf.agg | exact CellsOf.int | exact CellsOf.bool | exact CellsOf.slice | exact CellsOf.string | exact CellsOf.pointer | exact CellsOf.func) (by repeat (first | exact SetsAt.nil | apply SetsAt.here | apply SetsAt.there)) (by exact rfl) (by exact rfl) ?_
        clear H
        intro w H
        refine ⟨⟨H.rw_ (by repeat (first | exact Take.head | apply Take.tail)), H.rdgsl (by repeat (first | exact Take.head | apply Take.tail)), H.rd (s := p) (by repeat (first | exact Take.head | apply Take.tail)) int_len⟩, ?_⟩
        (try simp only [Act.put, List.setIfInBounds_toArray, List.set_cons_succ, List.set_cons_zero])
        refine wpAnyH_done (by kernel_rfl) ?_ _
        exact ⟨rfl, (), Lib.hid trivial, H.pick (.cons (by repeat (first | exact Take.head | apply Take.tail)) (.cons (by repeat (first | exact Take.head | apply Take.tail)) (.cons (by repeat (first | exact Take.head | apply Take.tail)) (.cons (by repeat (first | exact Take.head | apply Take.tail)) (.cons (by repeat (first | exact Take.head | apply Take.tail)) (.cons (by repeat (first | exact Take.head | apply Take.tail)) (.cons (by repeat (first | exact Take.head | apply Take.tail)) (.cons (by repeat (first | exact Take.head | apply Take.tail)) (.cons (by repeat (first | exact Take.head | apply Take.tail)) (.cons (by repeat (first | exact Take.head | apply Take.tail)) (.cons (by repeat (first | exact Take.head | apply Take.tail)) (.cons (by repeat (first | exact Take.head | apply Take.tail)) .nil)))))))))))), by first | (simp only [puts_cons, puts_nil, Act.put, List.setIfInBounds_toArray, List.set_cons_succ, List.set_cons_zero]; done) | (simp only [puts_cons, puts_nil, Act.put, List.setIfInBounds_toArray, List.set_cons_succ, List.set_cons_zero]; rfl)⟩
      clear H
      rintro u w ⟨_, _, H, rfl⟩
      simp only [puts_cons, puts_nil, Act.put, List.setIfInBounds_toArray, List.set_cons_succ, List.set_cons_zero]
      have hgl := HGL.out
      replace H := Hp.gst_close y.a y.pc y.ctl y.pending y.exit y.halted H
      rw [← set_app HL.out HL1.out] at H
      replace H := Hp.sl_same (s := b.gs) (t := (⟨b.gs.A, b.gs.c, b.gs.xs.set 0 ⟨y.prog, y.a, y.pc, y.written, ⟨y.live.A, y.live.c, y.live.xs.set k ⟨j + (k : Int), 3⟩⟩, y.ctl, y.pending, y.exit, y.halted, y.seen⟩⟩ : Sl GV)) rfl rfl (by simp) (flat_same HK.out (by simp [GV.cells])) (H.take (e := .gsl b.gs) (by repeat (first | exact Take.head | apply Take.tail)))
      obtain ⟨b2, hb2⟩ : ∃ b2 : BV, b2 = ⟨b.mem, (⟨b.gs.A, b.gs.c, b.gs.xs.set 0 ⟨y.prog, y.a, y.pc, y.written, ⟨y.live.A, y.live.c, y.live.xs.set k ⟨j + (k : Int), 3⟩⟩, y.ctl, y.pending, y.exit, y.halted, y.seen⟩⟩ : Sl GV), b.outs, b.pend⟩ := ⟨_, rfl⟩
      have eb : barr b = barr b2 := by rw [hb2]; simp [barr]
      have Hb2 : Hid (b2.m = F (k + 1)) := by
        have h := wg_hit HK.out (fun x => ({ x with live := x.live.set k (dls j k) } : MG))
        rw [Hb.out] at h
        refine Lib.hid (Eq.trans ?_ (h.symm.trans (FS.out k).symm))
        rw [hb2, ← Hb.out]
        simp only [BV.m, gsOf, List.map_set]
        rfl
      replace H : Hp W0 w [.bare b2, .int p, .box bB 31 (barr b).toList] := by
        rw [hb2]
        have H2 : Hp W0 w (.rows b.mem :: .many En.int b.mem.xs :: .gsl (⟨b.gs.A, b.gs.c, b.gs.xs.set 0 ⟨y.prog, y.a, y.pc, y.written, ⟨y.live.A, y.live.c, y.live.xs.set k ⟨j + (k : Int), 3⟩⟩, y.ctl, y.pending, y.exit, y.halted, y.seen⟩⟩ : Sl GV) :: .many En.gst (⟨b.gs.A, b.gs.c, b.gs.xs.set 0 ⟨y.prog, y.a, y.pc, y.written, ⟨y.live.A, y.live.c, y.live.xs.set k ⟨j + (k : Int), 3⟩⟩, y.ctl, y.pending, y.exit, y.halted, y.seen⟩⟩ : Sl GV).xs :: .int b.outs :: [.int p, .box bB 31 (barr b).toList]) := H.pick (.cons (by repeat (first | exact Take.head | apply Take.tail)) (.cons (by repeat (first | exact Take.head | apply Take.tail)) (.cons (by repeat (first | exact Take.head | apply Take.tail)) (.cons (by repeat (first | exact Take.head | apply Take.tail)) (.cons (by repeat (first | exact Take.head | apply Take.tail)) (.cons (by repeat (first | exact Take.head | apply Take.tail)) (.cons (by repeat (first | exact Take.head | apply Take.tail)) .nil)))))))
        exact H2.bare
      rw [eb] at H
      clear eb hb2 HK hgl
      go_wp2_with (first
        | go_skip
        | ((with_reducible refine at_box ?_); first | (refine wpList_box_H rfl rfl H rfl (by first | exact CellsOf.agg | exact CellsOf.int | exact CellsOf.bool | exact CellsOf.slice | exact CellsOf.string | exact CellsOf.pointer | exact CellsOf.func) ?_; clear H; intro bQ w H))
        | ((with_reducible refine at_alloc ?_); first | (refine wpList_alloc_H rfl rfl H ?_; clear H; intro b w H))
        | ((with_reducible refine at_load ?_); first | (refine wpList_load_H rfl rfl H rfl (by repeat (first | exact LoadAt.here rfl | apply LoadAt.there)) ?_) | (refine wpList_loads_H rfl rfl H rfl (by repeat (first | (apply LoadsAt.here; repeat (first | exact GetsAt.nil | apply GetsAt.here | apply GetsAt.there)) | apply LoadsAt.there)) ?_))
        | ((with_reducible refine at_store ?_); first | (refine wpList_store_H rfl rfl H rfl rfl (by repeat (first | (apply StoreAt.here; (first | exact CellsOf.agg | exact CellsOf.int | exact CellsOf.bool | exact CellsOf.slice | exact CellsOf.string | exact CellsOf.pointer | exact CellsOf.func); (repeat (first | exact SetsAt.nil | apply SetsAt.here | apply SetsAt.there)); exact rfl; exact rfl) | apply StoreAt.there)) ?_; clear H; intro w H)))
      go_roundw
      case rel => exact ⟨k + 1, b2, by omega, by go_num, Hb2, H.pick (.cons (by repeat (first | exact Take.head | apply Take.tail)) (.cons (by repeat (first | exact Take.head | apply Take.tail)) (.cons (by repeat (first | exact Take.head | apply Take.tail)) .nil)))⟩
      case measure => simp [intOf]; omega
    · have hke : k = 4 := by omega
      subst hke
      clear hk hk0
      have Zb := bbig_mq S5.out Hb
      go_wp2_with (first
        | go_skip
        | ((with_reducible refine at_box ?_); first | (refine wpList_box_H rfl rfl H rfl (by first | exact CellsOf.agg | exact CellsOf.int | exact CellsOf.bool | exact CellsOf.slice | exact CellsOf.string | exact CellsOf.pointer | exact CellsOf.func) ?_; clear H; intro bQ w H))
        | ((with_reducible refine at_alloc ?_); first | (refine wpList_alloc_H rfl rfl H ?_; clear H; intro bX w H))
        | ((with_reducible refine at_load ?_); first | (refine wpList_load_H rfl rfl H rfl (by repeat (first | exact LoadAt.here rfl | apply LoadAt.there)) ?_) | (refine wpList_loads_H rfl rfl H rfl (by repeat (first | (apply LoadsAt.here; repeat (first | exact GetsAt.nil | apply GetsAt.here | apply GetsAt.there)) | apply LoadsAt.there)) ?_))
        | ((with_reducible refine at_store ?_); first | (refine wpList_store_H rfl rfl H rfl rfl (by repeat (first | (apply StoreAt.here; (first | exact CellsOf.agg | exact CellsOf.int | exact CellsOf.bool | exact CellsOf.slice | exact CellsOf.string | exact CellsOf.pointer | exact CellsOf.func); (repeat (first | exact SetsAt.nil | apply SetsAt.here | apply SetsAt.there)); exact rfl; exact rfl) | apply StoreAt.there)) ?_; clear H; intro w H)))
      go_at_call 21
      refine (bareDma_c b 0 a v (by omega) (by omega) _ (H.brd (b := b) (by repeat (first | exact Take.head | apply Take.tail))) Zb).mono ?_
      rintro e w ⟨c, he, x1, K⟩
      have Hc : Hid (c.m = G2) := by show _ = _; rw [x1, Hb.out]; exact F4.out
      clear x1
      rw [Hb.out, LK.out] at he
      subst he
      replace H := H.add_all K
      clear K
      have Zc := bbig_mq S6.out Hc
      go_wp2_with (first
        | go_skip
        | ((with_reducible refine at_box ?_); first | (refine wpList_box_H rfl rfl H rfl (by first | exact CellsOf.agg | exact CellsOf.int | exact CellsOf.bool | exact CellsOf.slice | exact CellsOf.string | exact CellsOf.pointer | exact CellsOf.func) ?_; clear H; intro bQ w H))
        | ((with_reducible refine at_alloc ?_); first | (refine wpList_alloc_H rfl rfl H ?_; clear H; intro bX w H))
        | ((with_reducible refine at_load ?_); first | (refine wpList_load_H rfl rfl H rfl (by repeat (first | exact LoadAt.here rfl | apply LoadAt.there)) ?_) | (refine wpList_loads_H rfl rfl H rfl (by repeat (first | (apply LoadsAt.here; repeat (first | exact GetsAt.nil | apply GetsAt.here | apply GetsAt.there)) | apply LoadsAt.there)) ?_))
        | ((with_reducible refine at_store ?_); first | (refine wpList_store_H rfl rfl H rfl rfl (by repeat (first | (apply StoreAt.here; (first | exact CellsOf.agg | exact CellsOf.int | exact CellsOf.bool | exact CellsOf.slice | exact CellsOf.string | exact CellsOf.pointer | exact CellsOf.func); (repeat (first | exact SetsAt.nil | apply SetsAt.here | apply SetsAt.there)); exact rfl; exact rfl) | apply StoreAt.there)) ?_; clear H; intro w H))
        | ((with_reducible refine at_slice ?_); first | ((with_reducible refine at_dst 59 ?_); refine wpList_lit_H (enc := icell) rfl rfl H ([0, 0, 0] : List Int) (by kernel_rfl) rfl (by decide) (by decide) ?_; clear H; intro bl w H)))
      go_at_call 22
      refine (bareSteps_c c (⟨some ⟨bl, 0, none⟩, 3, [0, 0, 0]⟩ : Sl Int) _ (H.brd (b := c) (by repeat (first | exact Take.head | apply Take.tail))) Zc (H.rd (s := (⟨some ⟨bl, 0, none⟩, 3, [0, 0, 0]⟩ : Sl Int)) (by repeat (first | exact Take.head | apply Take.tail)) int_len) (by simp)).mono ?_
      rintro e w ⟨x, t, rfl, x1, x2, K⟩
      have Hx : Hid (x.m = G3) := by show _ = _; rw [x1, Hc.out]; exact F5.out
      rw [Hc.out] at x2
      have Ht := Lib.hid x2
      clear x1 x2
      replace H := H.add_all K
      clear K
      have Zx := bbig_mq S7.out Hx
      go_wp2_with (first
        | go_skip
        | ((with_reducible refine at_box ?_); first | (refine wpList_box_H rfl rfl H rfl (by first | exact CellsOf.agg | exact CellsOf.int | exact CellsOf.bool | exact CellsOf.slice | exact CellsOf.string | exact CellsOf.pointer | exact CellsOf.func) ?_; clear H; intro bQ w H))
        | ((with_reducible refine at_alloc ?_); first | (refine wpList_alloc_H rfl rfl H ?_; clear H; intro bX w H))
        | ((with_reducible refine at_load ?_); first | (refine wpList_load_H rfl rfl H rfl (by repeat (first | exact LoadAt.here rfl | apply LoadAt.there)) ?_) | (refine wpList_loads_H rfl rfl H rfl (by repeat (first | (apply LoadsAt.here; repeat (first | exact GetsAt.nil | apply GetsAt.here | apply GetsAt.there)) | apply LoadsAt.there)) ?_))
        | ((with_reducible refine at_store ?_); first | (refine wpList_store_H rfl rfl H rfl rfl (by repeat (first | (apply StoreAt.here; (first | exact CellsOf.agg | exact CellsOf.int | exact CellsOf.bool | exact CellsOf.slice | exact CellsOf.string | exact CellsOf.pointer | exact CellsOf.func); (repeat (first | exact SetsAt.nil | apply SetsAt.here | apply SetsAt.there)); exact rfl; exact rfl) | apply StoreAt.there)) ?_; clear H; intro w H)))
      replace H : Hp W0 _ [.bare x, .int p, .box bB 31 (barr x).toList] := H.pick (.cons (by repeat (first | exact Take.head | apply Take.tail)) (.cons (by repeat (first | exact Take.head | apply Take.tail)) (.cons (by repeat (first | exact Take.head | apply Take.tail)) .nil)))
      go_at_call 23
      refine (bareRead_c x 0 a (by omega) (by omega) _ (H.brd (b := x) (by repeat (first | exact Take.head | apply Take.tail))) Zx).mono ?_
      rintro e w ⟨he, K⟩
      rw [Hx.out, LR.out, LM.out] at he
      subst he
      replace H := H.add_all K
      clear K
      go_wp2_with (first
        | go_skip
        | ((with_reducible refine at_box ?_); first | (refine wpList_box_H rfl rfl H rfl (by first | exact CellsOf.agg | exact CellsOf.int | exact CellsOf.bool | exact CellsOf.slice | exact CellsOf.string | exact CellsOf.pointer | exact CellsOf.func) ?_; clear H; intro bQ w H))
        | ((with_reducible refine at_alloc ?_); first | (refine wpList_alloc_H rfl rfl H ?_; clear H; intro bX w H))
        | ((with_reducible refine at_load ?_); first | (refine wpList_load_H rfl rfl H rfl (by repeat (first | exact LoadAt.here rfl | apply LoadAt.there)) ?_) | (refine wpList_loads_H rfl rfl H rfl (by repeat (first | (apply LoadsAt.here; repeat (first | exact GetsAt.nil | apply GetsAt.here | apply GetsAt.there)) | apply LoadsAt.there)) ?_))
        | ((with_reducible refine at_store ?_); first | (refine wpList_store_H rfl rfl H rfl rfl (by repeat (first | (apply StoreAt.here; (first | exact CellsOf.agg | exact CellsOf.int | exact CellsOf.bool | exact CellsOf.slice | exact CellsOf.string | exact CellsOf.pointer | exact CellsOf.func); (repeat (first | exact SetsAt.nil | apply SetsAt.here | apply SetsAt.there)); exact rfl; exact rfl) | apply StoreAt.there)) ?_; clear H; intro w H)))
      try rw [WV.out]
      try rw [WM.out]
      go_wp2_with (first
        | go_skip
        | ((with_reducible refine at_box ?_); first | (refine wpList_box_H rfl rfl H rfl (by first | exact CellsOf.agg | exact CellsOf.int | exact CellsOf.bool | exact CellsOf.slice | exact CellsOf.string | exact CellsOf.pointer | exact CellsOf.func) ?_; clear H; intro bQ w H))
        | ((with_reducible refine at_alloc ?_); first | (refine wpList_alloc_H rfl rfl H ?_; clear H; intro bX w H))
        | ((with_reducible refine at_load ?_); first | (refine wpList_load_H rfl rfl H rfl (by repeat (first | exact LoadAt.here rfl | apply LoadAt.there)) ?_) | (refine wpList_loads_H rfl rfl H rfl (by repeat (first | (apply LoadsAt.here; repeat (first | exact GetsAt.nil | apply GetsAt.here | apply GetsAt.there)) | apply LoadsAt.there)) ?_))
        | ((with_reducible refine at_store ?_); first | (refine wpList_store_H rfl rfl H rfl rfl (by repeat (first | (apply StoreAt.here; (first | exact CellsOf.agg | exact CellsOf.int | exact CellsOf.bool | exact CellsOf.slice | exact CellsOf.string | exact CellsOf.pointer | exact CellsOf.func); (repeat (first | exact SetsAt.nil | apply SetsAt.here | apply SetsAt.there)); exact rfl; exact rfl) | apply StoreAt.there)) ?_; clear H; intro w H)))
      go_at_call 25
      refine (seenOf_c x 0 _ (H.brd (b := x) (by repeat (first | exact Take.head | apply Take.tail))) Zx).mono ?_
      rintro e w ⟨⟨Au, cu, xu⟩, rfl, x1, K⟩
      rw [Hx.out, LS.out] at x1
      obtain rfl : xu = [v] := x1
      replace H := H.add_all K
      clear K
      go_wp2_with (first
        | go_skip
        | ((with_reducible refine at_box ?_); first | (refine wpList_box_H rfl rfl H rfl (by first | exact CellsOf.agg | exact CellsOf.int | exact CellsOf.bool | exact CellsOf.slice | exact CellsOf.string | exact CellsOf.pointer | exact CellsOf.func) ?_; clear H; intro bQ w H))
        | ((with_reducible refine at_alloc ?_); first | (refine wpList_alloc_H rfl rfl H ?_; clear H; intro b w H))
        | ((with_reducible refine at_load ?_); first | (refine wpList_load_H rfl rfl H rfl (by repeat (first | exact LoadAt.here rfl | apply LoadAt.there)) ?_) | (refine wpList_loads_H rfl rfl H rfl (by repeat (first | (apply LoadsAt.here; repeat (first | exact GetsAt.nil | apply GetsAt.here | apply GetsAt.there)) | apply LoadsAt.there)) ?_))
        | ((with_reducible refine at_store ?_); first | (refine wpList_store_H rfl rfl H rfl rfl (by repeat (first | (apply StoreAt.here; (first | exact CellsOf.agg | exact CellsOf.int | exact CellsOf.bool | exact CellsOf.slice | exact CellsOf.string | exact CellsOf.pointer | exact CellsOf.func); (repeat (first | exact SetsAt.nil | apply SetsAt.here | apply SetsAt.there)); exact rfl; exact rfl) | apply StoreAt.there)) ?_; clear H; intro w H))
        | ((with_reducible refine at_slice ?_); first | ((with_reducible refine at_dst 84 ?_); refine wpList_one_H (enc := icell) rfl rfl H _ rfl CellsOf.int rfl (by decide) ?_; clear H; intro bj w H)))
      go_at_call 24
      refine (sameInts_c ⟨Au, cu, [v]⟩ ⟨some ⟨bj, 0, none⟩, 1, [v]⟩ _ (H.rd (s := ⟨Au, cu, [v]⟩) (by repeat (first | exact Take.head | apply Take.tail)) int_len) (H.rd (s := ⟨some ⟨bj, 0, none⟩, 1, [v]⟩) (by repeat (first | exact Take.head | apply Take.tail)) int_len) (by simp)).mono ?_
      rintro e w ⟨he, K⟩
      rw [show ((⟨Au, cu, [v]⟩ : Sl Int).xs == (⟨some ⟨bj, 0, none⟩, 1, [v]⟩ : Sl Int).xs) = true from by simp] at he
      subst he
      replace H := H.add_all K
      clear K
      go_wp2_with (first
        | go_skip
        | ((with_reducible refine at_box ?_); first | (refine wpList_box_H rfl rfl H rfl (by first | exact CellsOf.agg | exact CellsOf.int | exact CellsOf.bool | exact CellsOf.slice | exact CellsOf.string | exact CellsOf.pointer | exact CellsOf.func) ?_; clear H; intro bQ w H))
        | ((with_reducible refine at_alloc ?_); first | (refine wpList_alloc_H rfl rfl H ?_; clear H; intro b w H))
        | ((with_reducible refine at_load ?_); first | (refine wpList_load_H rfl rfl H rfl (by repeat (first | exact LoadAt.here rfl | apply LoadAt.there)) ?_) | (refine wpList_loads_H rfl rfl H rfl (by repeat (first | (apply LoadsAt.here; repeat (first | exact GetsAt.nil | apply GetsAt.here | apply GetsAt.there)) | apply LoadsAt.there)) ?_))
        | ((with_reducible refine at_store ?_); first | (refine wpList_store_H rfl rfl H rfl rfl (by repeat (first | (apply StoreAt.here; (first | exact CellsOf.agg | exact CellsOf.int | exact CellsOf.bool | exact CellsOf.slice | exact CellsOf.string | exact CellsOf.pointer | exact CellsOf.func); (repeat (first | exact SetsAt.nil | apply SetsAt.here | apply SetsAt.there)); exact rfl; exact rfl) | apply StoreAt.there)) ?_; clear H; intro w H)))
      go_ret
      exact ⟨rfl, H.below⟩
end Go.Proofs.Ytjiiobliadeldaa
