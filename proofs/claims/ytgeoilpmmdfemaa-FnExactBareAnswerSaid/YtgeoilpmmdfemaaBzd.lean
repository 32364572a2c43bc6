/- Contracts of BareAnswer of the reference and of BareResume of both sides. No condition but that the arguments lie in memory. -/
import Derived.Test.YtgeoilpmmdfemaaBzc
namespace Go.Proofs.Ytgeoilpmmdfemaa
set_option linter.unusedSimpArgs false
set_option linter.unusedVariables false
open Go.RowKit
theorem wg_put {d : BV} {m : MB} {k : Nat} {y q : GV} {F : MG → MG} (hd : Hid (d.m = m)) (hy : Hid (d.gs.xs[k]? = some y)) (hq : q.m = F y.m) : (⟨d.mem, ⟨d.gs.A, d.gs.c, d.gs.xs.set k q⟩, d.outs, d.pend⟩ : BV).m = withGuestM m k (F (gAtM m k)) := by
  rw [← hd.out, wg_hit hy.out]
  simp only [BV.m, gsOf, List.map_set]; rw [hq]
set_option linter.unusedSimpArgs false in
set_option linter.unusedVariables false in
set_option maxRecDepth 100000 in
set_option maxHeartbeats 4000000 in
theorem bareResume_c (B : BV) (g : Int) (W0 : World) (R : BRd W0 B) (Z : BBig B) : Calls Try.prog 76 #[B.val, .int .i64 g] W0 fun e w' => ∃ d : BV, e = .returned (.tuple #[d.val, .bool (chOkM B.m g (resC B.m g))]) ∧ d.m = changedM B.m g (resC B.m g) (resF B.m g) ∧ Hp W0 w' [.bare d] := by
  obtain ⟨X, hX⟩ : ∃ X, X = (gAtM B.m g).exit := ⟨_, rfl⟩
  have HX : Hid ((gAtM B.m g).exit = X) := hX.symm
  obtain ⟨kd, pg, wr, n⟩ := X
  have hc : resC B.m g = (kd == 1 || kd == 4) := by unfold resC; rw [← hX]
  have hf : resF B.m g = resumeG kd := by unfold resF; rw [← hX]
  rw [hc, hf]
  clear hc hf hX
  cases e1 : (kd == 1)
  · rw [Bool.false_or]
    cases e4 : (kd == 4)
    · have H := Hp.start W0
      go_enter Try.func76, Try.ntmps76
      go_wp2_with (first
        | go_skip
        | ((with_reducible refine at_box ?_); first | (refine wpList_box_H (cs := (barr B).toList) rfl rfl H rfl CellsOf.agg ?_; clear H; intro bB w H) | (refine wpList_box_H rfl rfl H rfl (by first | exact CellsOf.agg | exact CellsOf.int | exact CellsOf.bool | exact CellsOf.slice | exact CellsOf.string | exact CellsOf.pointer | exact CellsOf.func) ?_; clear H; intro b w H))
        | ((with_reducible refine at_alloc ?_); first | ((with_reducible refine at_dst 4 ?_); refine wpList_alloc_H rfl rfl H ?_; clear H; intro bR w H) | ((with_reducible refine at_dst 6 ?_); refine wpList_alloc_H rfl rfl H ?_; clear H; intro bK w H) | (refine wpList_alloc_H rfl rfl H ?_; clear H; intro b w H))
        | ((with_reducible refine at_load ?_); first | (refine wpList_load_H rfl rfl H rfl (by repeat (first | exact LoadAt.here rfl | apply LoadAt.there)) ?_) | (refine wpList_loads_H rfl rfl H rfl (by repeat (first | (apply LoadsAt.here; repeat (first | exact GetsAt.nil | apply GetsAt.here | apply GetsAt.there)) | apply LoadsAt.there)) ?_))
        | ((with_reducible refine at_store ?_); first | (refine wpList_store_H rfl rfl H rfl rfl (by repeat (first | (apply StoreAt.here; (first | exact CellsOf.agg | exact CellsOf.int | exact CellsOf.bool | exact CellsOf.slice | exact CellsOf.string | exact CellsOf.pointer | exact CellsOf.func); (repeat (first | exact SetsAt.nil | apply SetsAt.here | apply SetsAt.there)); exact rfl; exact rfl) | apply StoreAt.there)) ?_; clear H; intro w H))
        | (go_at_call 24; refine (exitOf_c B g _ (R.at_ H) Z).mono ?_; rintro e w ⟨he, K⟩; rw [HX.out] at he; subst he; replace H := H.add_all K; clear K)
        | (go_at_call 138; refine (changed_c B g false 158 Try.f158 Try.func158 (by kernel_rfl) #[.pointer (some ⟨bK, 0, none⟩)] (resumeG kd) _ (R.at_ H) Z (by rw [resume_sz]; exact Nat.le_trans (gAtM_size B.m g) Z) (fun x _ hb Rx Zx => bareResume1_f x kd e4 bK _ Rx Zx ((H.rw_ (cs := [.int .i64 kd]) (by repeat (first | exact Take.head | apply Take.tail))).below_ hb))).mono ?_; rintro e w ⟨d, rfl, x1, K⟩; have HD := Lib.hid x1; clear x1; replace H := H.add_all K; clear K))
      refine bodyPost_ret (results_H2 rfl H rfl (by repeat (first | (apply LoadsAt.here; repeat (first | exact GetsAt.nil | apply GetsAt.here | apply GetsAt.there)) | apply LoadsAt.there))) rfl ⟨d, rfl, HD.out, H.pick (.cons (by repeat (first | exact Take.head | apply Take.tail)) .nil)⟩
    · have H := Hp.start W0
      go_enter Try.func76, Try.ntmps76
      go_wp2_with (first
        | go_skip
        | ((with_reducible refine at_box ?_); first | (refine wpList_box_H (cs := (barr B).toList) rfl rfl H rfl CellsOf.agg ?_; clear H; intro bB w H) | (refine wpList_box_H rfl rfl H rfl (by first | exact CellsOf.agg | exact CellsOf.int | exact CellsOf.bool | exact CellsOf.slice | exact CellsOf.string | exact CellsOf.pointer | exact CellsOf.func) ?_; clear H; intro b w H))
        | ((with_reducible refine at_alloc ?_); first | ((with_reducible refine at_dst 4 ?_); refine wpList_alloc_H rfl rfl H ?_; clear H; intro bR w H) | ((with_reducible refine at_dst 6 ?_); refine wpList_alloc_H rfl rfl H ?_; clear H; intro bK w H) | (refine wpList_alloc_H rfl rfl H ?_; clear H; intro b w H))
        | ((with_reducible refine at_load ?_); first | (refine wpList_load_H rfl rfl H rfl (by repeat (first | exact LoadAt.here rfl | apply LoadAt.there)) ?_) | (refine wpList_loads_H rfl rfl H rfl (by repeat (first | (apply LoadsAt.here; repeat (first | exact GetsAt.nil | apply GetsAt.here | apply GetsAt.there)) | apply LoadsAt.there)) ?_))
        | ((with_reducible refine at_store ?_); first | (refine wpList_store_H rfl rfl H rfl rfl (by repeat (first | (apply StoreAt.here; (first | exact CellsOf.agg | exact CellsOf.int | exact CellsOf.bool | exact CellsOf.slice | exact CellsOf.string | exact CellsOf.pointer | exact CellsOf.func); (repeat (first | exact SetsAt.nil | apply SetsAt.here | apply SetsAt.there)); exact rfl; exact rfl) | apply StoreAt.there)) ?_; clear H; intro w H))
        | (go_at_call 24; refine (exitOf_c B g _ (R.at_ H) Z).mono ?_; rintro e w ⟨he, K⟩; rw [HX.out] at he; subst he; replace H := H.add_all K; clear K)
        | (go_at_call 138; refine (changed_c B g true 158 Try.f158 Try.func158 (by kernel_rfl) #[.pointer (some ⟨bK, 0, none⟩)] (resumeG kd) _ (R.at_ H) Z (by rw [resume_sz]; exact Nat.le_trans (gAtM_size B.m g) Z) (fun x _ hb Rx Zx => bareResume1_t x kd e4 bK _ Rx Zx ((H.rw_ (cs := [.int .i64 kd]) (by repeat (first | exact Take.head | apply Take.tail))).below_ hb))).mono ?_; rintro e w ⟨d, rfl, x1, K⟩; have HD := Lib.hid x1; clear x1; replace H := H.add_all K; clear K))
      refine bodyPost_ret (results_H2 rfl H rfl (by repeat (first | (apply LoadsAt.here; repeat (first | exact GetsAt.nil | apply GetsAt.here | apply GetsAt.there)) | apply LoadsAt.there))) rfl ⟨d, rfl, HD.out, H.pick (.cons (by repeat (first | exact Take.head | apply Take.tail)) .nil)⟩
  · rw [Bool.true_or]
    have e4 : (kd == 4) = false := by simp at e1 ⊢; omega
    have H := Hp.start W0
    go_enter Try.func76, Try.ntmps76
    go_wp2_with (first
      | go_skip
      | ((with_reducible refine at_box ?_); first | (refine wpList_box_H (cs := (barr B).toList) rfl rfl H rfl CellsOf.agg ?_; clear H; intro bB w H) | (refine wpList_box_H rfl rfl H rfl (by first | exact CellsOf.agg | exact CellsOf.int | exact CellsOf.bool | exact CellsOf.slice | exact CellsOf.string | exact CellsOf.pointer | exact CellsOf.func) ?_; clear H; intro b w H))
      | ((with_reducible refine at_alloc ?_); first | ((with_reducible refine at_dst 4 ?_); refine wpList_alloc_H rfl rfl H ?_; clear H; intro bR w H) | ((with_reducible refine at_dst 6 ?_); refine wpList_alloc_H rfl rfl H ?_; clear H; intro bK w H) | (refine wpList_alloc_H rfl rfl H ?_; clear H; intro b w H))
      | ((with_reducible refine at_load ?_); first | (refine wpList_load_H rfl rfl H rfl (by repeat (first | exact LoadAt.here rfl | apply LoadAt.there)) ?_) | (refine wpList_loads_H rfl rfl H rfl (by repeat (first | (apply LoadsAt.here; repeat (first | exact GetsAt.nil | apply GetsAt.here | apply GetsAt.there)) | apply LoadsAt.there)) ?_))
      | ((with_reducible refine at_store ?_); first | (refine wpList_store_H rfl rfl H rfl rfl (by repeat (first | (apply StoreAt.here; (first | exact CellsOf.agg | exact CellsOf.int | exact CellsOf.bool | exact CellsOf.slice | exact CellsOf.string | exact CellsOf.pointer | exact CellsOf.func); (repeat (first | exact SetsAt.nil | apply SetsAt.here | apply SetsAt.there)); exact rfl; exact rfl) | apply StoreAt.there)) ?_; clear H; intro w H))
      | (go_at_call 24; refine (exitOf_c B g _ (R.at_ H) Z).mono ?_; rintro e w ⟨he, K⟩; rw [HX.out] at he; subst he; replace H := H.add_all K; clear K)
      | (go_at_call 138; refine (changed_c B g true 158 Try.f158 Try.func158 (by kernel_rfl) #[.pointer (some ⟨bK, 0, none⟩)] (resumeG kd) _ (R.at_ H) Z (by rw [resume_sz]; exact Nat.le_trans (gAtM_size B.m g) Z) (fun x _ hb Rx Zx => bareResume1_f x kd e4 bK _ Rx Zx ((H.rw_ (cs := [.int .i64 kd]) (by repeat (first | exact Take.head | apply Take.tail))).below_ hb))).mono ?_; rintro e w ⟨d, rfl, x1, K⟩; have HD := Lib.hid x1; clear x1; replace H := H.add_all K; clear K))
    refine bodyPost_ret (results_H2 rfl H rfl (by repeat (first | (apply LoadsAt.here; repeat (first | exact GetsAt.nil | apply GetsAt.here | apply GetsAt.there)) | apply LoadsAt.there))) rfl ⟨d, rfl, HD.out, H.pick (.cons (by repeat (first | exact Take.head | apply Take.tail)) .nil)⟩
theorem gz_rd {w : World} {y z : GV} (R : GRd w y) (h1 : z.prog = y.prog) (h2 : z.written = y.written) (h3 : z.live = y.live) (h4 : z.seen = y.seen) : GRd w z := ⟨h1 ▸ R.prog, h2 ▸ R.written, h3 ▸ R.live, h4 ▸ R.seen⟩
set_option linter.unusedSimpArgs false in
set_option linter.unusedVariables false in
set_option maxRecDepth 100000 in
set_option maxHeartbeats 4000000 in
theorem specBareAnswer_c (B : BV) (g : Int) (v : Int) (W0 : World) (R : BRd W0 B) (Z : BBig B) : Calls Try.prog 73 #[B.val, .int .i64 g, .int .i64 v] W0 fun e w' => ∃ d : BV, e = .returned (.tuple #[d.val, .bool (chOkM B.m g (ansC B.m g v))]) ∧ d.m = changedM B.m g (ansC B.m g v) (ansF B.m g v) ∧ Hp W0 w' [.bare d] := by
  have ho : chOkM B.m g (ansC B.m g v) = ((bareOkM B.m && hasM B.m g) && (ansC B.m g v)) := rfl
  cases e1 : (bareOkM B.m && hasM B.m g)
  case false =>
    rw [e1, Bool.false_and] at ho
    have HO := Lib.hid ho
    clear ho
    have H := Hp.start W0
    go_enter Try.func73, Try.ntmps73
    go_wp2_with (first
      | go_skip
      | ((with_reducible refine at_box ?_); first | (refine wpList_box_H (cs := (barr B).toList) rfl rfl H rfl CellsOf.agg ?_; clear H; intro bB w H) | (refine wpList_box_H rfl rfl H rfl (by first | exact CellsOf.agg | exact CellsOf.int | exact CellsOf.bool | exact CellsOf.slice | exact CellsOf.string | exact CellsOf.pointer | exact CellsOf.func) ?_; clear H; intro b w H))
      | ((with_reducible refine at_alloc ?_); first | ((with_reducible refine at_dst 6 ?_); refine wpList_alloc_H rfl rfl H ?_; clear H; intro bR w H) | (refine wpList_alloc_H rfl rfl H ?_; clear H; intro b w H))
      | ((with_reducible refine at_load ?_); first | (refine wpList_load_H rfl rfl H rfl (by repeat (first | exact LoadAt.here rfl | apply LoadAt.there)) ?_) | (refine wpList_loads_H rfl rfl H rfl (by repeat (first | (apply LoadsAt.here; repeat (first | exact GetsAt.nil | apply GetsAt.here | apply GetsAt.there)) | apply LoadsAt.there)) ?_))
      | ((with_reducible refine at_store ?_); first | (refine wpList_store_H rfl rfl H rfl rfl (by repeat (first | (apply StoreAt.here; (first | exact CellsOf.agg | exact CellsOf.int | exact CellsOf.bool | exact CellsOf.slice | exact CellsOf.string | exact CellsOf.pointer | exact CellsOf.func); (repeat (first | exact SetsAt.nil | apply SetsAt.here | apply SetsAt.there)); exact rfl; exact rfl) | apply StoreAt.there)) ?_; clear H; intro w H))
      | (go_at_call 124; refine (l17Copy_c B _ (R.at_ H) Z).mono ?_; rintro e w ⟨d, rfl, x1, K⟩; have HD := Lib.hid x1; clear x1; have Zd := m_big HD Z; replace H := (H.add_all K); clear K)
      | (go_at_call 136; refine (l19Is_c d g _ (H.brd (by repeat (first | exact Take.head | apply Take.tail))) Zd).mono ?_; rintro e w ⟨he, K⟩; rw [HD.out, e1] at he; subst he; replace H := H.add_all K; clear K))
    refine bodyPost_ret (results_H2 rfl H rfl (by repeat (first | (apply LoadsAt.here; repeat (first | exact GetsAt.nil | apply GetsAt.here | apply GetsAt.there)) | apply LoadsAt.there))) rfl ⟨d, by rw [HO.out]; rfl, by unfold changedM; rw [HO.out]; exact HD.out, H.pick (.cons (by repeat (first | exact Take.head | apply Take.tail)) .nil)⟩
  case true =>
    rw [e1, Bool.true_and] at ho
    have hg : 0 ≤ g ∧ g < B.gs.xs.length := by simp only [Bool.and_eq_true] at e1; simpa [hasM, hasB, BV.m, gsOf] using e1.2
    obtain ⟨k, rfl⟩ := Int.eq_ofNat_of_zero_le hg.1
    have hk : k < B.gs.xs.length := by omega
    clear hg
    cases ev : inB v 0 99
    case false =>
      have ho' : chOkM B.m k (ansC B.m k v) = false := by rw [ho]; unfold ansC; rw [ev, Bool.and_false]
      have HO := Lib.hid ho'
      clear ho ho'
      have H := Hp.start W0
      go_enter Try.func73, Try.ntmps73
      go_wp2_with (first
        | go_skip
        | ((with_reducible refine at_box ?_); first | (refine wpList_box_H (cs := (barr B).toList) rfl rfl H rfl CellsOf.agg ?_; clear H; intro bB w H) | (refine wpList_box_H rfl rfl H rfl (by first | exact CellsOf.agg | exact CellsOf.int | exact CellsOf.bool | exact CellsOf.slice | exact CellsOf.string | exact CellsOf.pointer | exact CellsOf.func) ?_; clear H; intro b w H))
        | ((with_reducible refine at_alloc ?_); first | ((with_reducible refine at_dst 6 ?_); refine wpList_alloc_H rfl rfl H ?_; clear H; intro bR w H) | (refine wpList_alloc_H rfl rfl H ?_; clear H; intro b w H))
        | ((with_reducible refine at_load ?_); first | (refine wpList_load_H rfl rfl H rfl (by repeat (first | exact LoadAt.here rfl | apply LoadAt.there)) ?_) | (refine wpList_loads_H rfl rfl H rfl (by repeat (first | (apply LoadsAt.here; repeat (first | exact GetsAt.nil | apply GetsAt.here | apply GetsAt.there)) | apply LoadsAt.there)) ?_))
        | ((with_reducible refine at_store ?_); first | (refine wpList_store_H rfl rfl H rfl rfl (by repeat (first | (apply StoreAt.here; (first | exact CellsOf.agg | exact CellsOf.int | exact CellsOf.bool | exact CellsOf.slice | exact CellsOf.string | exact CellsOf.pointer | exact CellsOf.func); (repeat (first | exact SetsAt.nil | apply SetsAt.here | apply SetsAt.there)); exact rfl; exact rfl) | apply StoreAt.there)) ?_; clear H; intro w H))
        | (go_at_call 124; refine (l17Copy_c B _ (R.at_ H) Z).mono ?_; rintro e w ⟨d, rfl, x1, K⟩; have HD := Lib.hid x1; clear x1; have Zd := m_big HD Z; replace H := (H.add_all K); clear K)
        | (go_at_call 136; refine (l19Is_c d k _ (H.brd (by repeat (first | exact Take.head | apply Take.tail))) Zd).mono ?_; rintro e w ⟨he, K⟩; rw [HD.out, e1] at he; subst he; replace H := H.add_all K; clear K)
        | (go_at_call 98; refine (in_any _ _ _ _).mono ?_; rintro e w' ⟨he, hw⟩; subst hw; rw [ev] at he; subst he))
      refine bodyPost_ret (results_H2 rfl H rfl (by repeat (first | (apply LoadsAt.here; repeat (first | exact GetsAt.nil | apply GetsAt.here | apply GetsAt.there)) | apply LoadsAt.there))) rfl ⟨d, by rw [HO.out]; rfl, by unfold changedM; rw [HO.out]; exact HD.out, H.pick (.cons (by repeat (first | exact Take.head | apply Take.tail)) .nil)⟩
    case true =>
      obtain ⟨kd, hkd⟩ : ∃ kd, kd = (gAtM B.m k).exit.kind := ⟨_, rfl⟩
      have HC : (ansC B.m k v) = (kd == 2 || kd == 3) := by unfold ansC; rw [← hkd, ev]; rw [Bool.and_true]
      have HF : (ansF B.m k v) = (answerG kd v) := by unfold ansF; rw [← hkd]
      rw [HC] at ho ⊢
      rw [HF]
      clear HC HF
      obtain ⟨cb, hcb⟩ : ∃ cb, cb = (kd == 2 || kd == 3) := ⟨_, rfl⟩
      rw [← hcb] at ho ⊢
      have HCB := Lib.hid hcb
      clear hcb
      have HKD := Lib.hid hkd.symm
      clear hkd
      cases e2 : (kd == 2)
      · cases e3 : (kd == 3)
        · skip
          have HO : Hid (chOkM B.m k cb = false) := by show _ = _; rw [ho, HCB.out]; rw [e2, e3]; rfl
          clear ho
          have H := Hp.start W0
          go_enter Try.func73, Try.ntmps73
          go_wp2_with (first
            | go_skip
            | ((with_reducible refine at_box ?_); first | (refine wpList_box_H (cs := (barr B).toList) rfl rfl H rfl CellsOf.agg ?_; clear H; intro bB w H) | (refine wpList_box_H rfl rfl H rfl (by first | exact CellsOf.agg | exact CellsOf.int | exact CellsOf.bool | exact CellsOf.slice | exact CellsOf.string | exact CellsOf.pointer | exact CellsOf.func) ?_; clear H; intro b w H))
            | ((with_reducible refine at_alloc ?_); first | ((with_reducible refine at_dst 6 ?_); refine wpList_alloc_H rfl rfl H ?_; clear H; intro bR w H) | ((with_reducible refine at_dst 8 ?_); refine wpList_alloc_H rfl rfl H ?_; clear H; intro bX w H) | (refine wpList_alloc_H rfl rfl H ?_; clear H; intro b w H))
            | ((with_reducible refine at_load ?_); first | (refine wpList_loads_rd rfl rfl d.gs (H.rdgsl (by repeat (first | exact Take.head | apply Take.tail))) rfl y HK.out (by repeat (first | exact GetsAt.nil | apply GetsAt.here | apply GetsAt.there)) ?_) | (refine wpList_load_H rfl rfl H rfl (by repeat (first | exact LoadAt.here rfl | apply LoadAt.there)) ?_) | (refine wpList_loads_H rfl rfl H rfl (by repeat (first | (apply LoadsAt.here; repeat (first | exact GetsAt.nil | apply GetsAt.here | apply GetsAt.there)) | apply LoadsAt.there)) ?_))
            | ((with_reducible refine at_store ?_); first | (refine wpList_store_H rfl rfl H rfl rfl (by repeat (first | (apply StoreAt.here; (first | exact CellsOf.agg | exact CellsOf.int | exact CellsOf.bool | exact CellsOf.slice | exact CellsOf.string | exact CellsOf.pointer | exact CellsOf.func); (repeat (first | exact SetsAt.nil | apply SetsAt.here | apply SetsAt.there)); exact rfl; exact rfl) | apply StoreAt.there)) ?_; clear H; intro w H))
            | ((with_reducible refine at_index ?_); first | (refine wpList_index_n rfl rfl d.gs (H.rdgsl (by repeat (first | exact Take.head | apply Take.tail))) rfl rfl rfl (by rw [m_glen HD]; exact hk) ?_))
            | (go_at_call 124; refine (l17Copy_c B _ (R.at_ H) Z).mono ?_; rintro e w ⟨d, rfl, x1, K⟩; have HD := Lib.hid x1; clear x1; have Zd := m_big HD Z; replace H := (H.add_all K); clear K; obtain ⟨y, hy⟩ : ∃ y, d.gs.xs[k]? = some y := ⟨_, List.getElem?_eq_getElem (by rw [m_glen HD]; exact hk)⟩; have HK := Lib.hid hy; clear hy; have HY : Hid (y.exit.kind = kd) := (by show _ = _; have h := (gAtM_hit HK.out).1; rw [HD.out] at h; have h2 := HKD.out; rw [h] at h2; exact h2); have e2y : (y.exit.kind == 2) = false := (by rw [HY.out]; exact e2); have e3y : (y.exit.kind == 3) = false := (by rw [HY.out]; exact e3); skip)
            | (go_at_call 136; refine (l19Is_c d k _ (H.brd (by repeat (first | exact Take.head | apply Take.tail))) Zd).mono ?_; rintro e w ⟨he, K⟩; rw [HD.out, e1] at he; subst he; replace H := H.add_all K; clear K; replace H := (H.take (e := .bare d) (by repeat (first | exact Take.head | apply Take.tail))).bparts)
            | (go_at_call 98; refine (in_any _ _ _ _).mono ?_; rintro e w' ⟨he, hw⟩; subst hw; rw [ev] at he; subst he))
          refine bodyPost_ret (results_H2 rfl H rfl (by repeat (first | (apply LoadsAt.here; repeat (first | exact GetsAt.nil | apply GetsAt.here | apply GetsAt.there)) | apply LoadsAt.there))) rfl ⟨d, by rw [HO.out]; rfl, by unfold changedM; rw [HO.out]; exact HD.out, H.bare5 (.cons (by repeat (first | exact Take.head | apply Take.tail)) (.cons (by repeat (first | exact Take.head | apply Take.tail)) (.cons (by repeat (first | exact Take.head | apply Take.tail)) (.cons (by repeat (first | exact Take.head | apply Take.tail)) (.cons (by repeat (first | exact Take.head | apply Take.tail)) .nil))))) rfl rfl⟩
        · skip
          have HO : Hid (chOkM B.m k cb = true) := by show _ = _; rw [ho, HCB.out]; rw [e2, e3]; rfl
          clear ho
          have H := Hp.start W0
          go_enter Try.func73, Try.ntmps73
          go_wp2_with (first
            | go_skip
            | ((with_reducible refine at_box ?_); first | (refine wpList_box_H (cs := (barr B).toList) rfl rfl H rfl CellsOf.agg ?_; clear H; intro bB w H) | (refine wpList_box_H rfl rfl H rfl (by first | exact CellsOf.agg | exact CellsOf.int | exact CellsOf.bool | exact CellsOf.slice | exact CellsOf.string | exact CellsOf.pointer | exact CellsOf.func) ?_; clear H; intro b w H))
            | ((with_reducible refine at_alloc ?_); first | ((with_reducible refine at_dst 6 ?_); refine wpList_alloc_H rfl rfl H ?_; clear H; intro bR w H) | ((with_reducible refine at_dst 8 ?_); refine wpList_alloc_H rfl rfl H ?_; clear H; intro bX w H) | (refine wpList_alloc_H rfl rfl H ?_; clear H; intro b w H))
            | ((with_reducible refine at_load ?_); first | (refine wpList_loads_rd rfl rfl d.gs (H.rdgsl (by repeat (first | exact Take.head | apply Take.tail))) rfl y HK.out (by repeat (first | exact GetsAt.nil | apply GetsAt.here | apply GetsAt.there)) ?_) | (refine wpList_load_H rfl rfl H rfl (by repeat (first | exact LoadAt.here rfl | apply LoadAt.there)) ?_) | (refine wpList_loads_H rfl rfl H rfl (by repeat (first | (apply LoadsAt.here; repeat (first | exact GetsAt.nil | apply GetsAt.here | apply GetsAt.there)) | apply LoadsAt.there)) ?_))
            | ((with_reducible refine at_store ?_); first | (refine wpList_store_H rfl rfl H rfl rfl (by repeat (first | (apply StoreAt.here; (first | exact CellsOf.agg | exact CellsOf.int | exact CellsOf.bool | exact CellsOf.slice | exact CellsOf.string | exact CellsOf.pointer | exact CellsOf.func); (repeat (first | exact SetsAt.nil | apply SetsAt.here | apply SetsAt.there)); exact rfl; exact rfl) | apply StoreAt.there)) ?_; clear H; intro w H))
            | ((with_reducible refine at_index ?_); first | (refine wpList_index_n rfl rfl d.gs (H.rdgsl (by repeat (first | exact Take.head | apply Take.tail))) rfl rfl rfl (by rw [m_glen HD]; exact hk) ?_))
            | (go_at_call 124; refine (l17Copy_c B _ (R.at_ H) Z).mono ?_; rintro e w ⟨d, rfl, x1, K⟩; have HD := Lib.hid x1; clear x1; have Zd := m_big HD Z; replace H := (H.add_all K); clear K; obtain ⟨y, hy⟩ : ∃ y, d.gs.xs[k]? = some y := ⟨_, List.getElem?_eq_getElem (by rw [m_glen HD]; exact hk)⟩; have HK := Lib.hid hy; clear hy; have HY : Hid (y.exit.kind = kd) := (by show _ = _; have h := (gAtM_hit HK.out).1; rw [HD.out] at h; have h2 := HKD.out; rw [h] at h2; exact h2); have e2y : (y.exit.kind == 2) = false := (by rw [HY.out]; exact e2); have e3y : (y.exit.kind == 3) = true := (by rw [HY.out]; exact e3); skip)
            | (go_at_call 136; refine (l19Is_c d k _ (H.brd (by repeat (first | exact Take.head | apply Take.tail))) Zd).mono ?_; rintro e w ⟨he, K⟩; rw [HD.out, e1] at he; subst he; replace H := H.add_all K; clear K; replace H := (H.take (e := .bare d) (by repeat (first | exact Take.head | apply Take.tail))).bparts)
            | (go_at_call 98; refine (in_any _ _ _ _).mono ?_; rintro e w' ⟨he, hw⟩; subst hw; rw [ev] at he; subst he))
          refine wp_cut (fun u a' w' => ∃ (q0 : GV) (q1 : GV), Hid (q1.m = movedM (stoppedM (y : GV).m noExit)) ∧ Hp W0 w' [.gst q1, .many En.gst d.gs.xs, .gsl ⟨d.gs.A, d.gs.c, d.gs.xs.set k q1⟩, .rows d.mem, .many En.int d.mem.xs, .int d.outs, .box bB 33 (barr d).toList, .box bR 33 [.slice none 0 0, .slice none 0 0, .slice none 0 0, .int .i64 0]] ∧ a' = puts u [(36, .pointer (some ⟨bB, 1, none⟩)), (37, .slice d.gs.A d.gs.xs.length d.gs.c), (38, (.int .i64 k)), (39, (y : GV).val), (40, noExit.val), (41, q0.val), (42, q1.val), (43, (.pointer (some ⟨ablk d.gs.A, aoff d.gs.A + k * 15, none⟩)))]) ?_ ?_
          · refine wp_region_held (S := (fun w' => Rw w' bB 33 (barr d) ∧ Rw w' bX 50 (garr (y : GV)))) (by kernel_rfl) ?_
            replace H := H.drew
            refine takeH (i := 0) rfl .here (by kernel_rfl) (by kernel_rfl) (by kernel_rfl) (fun _ _ _ h => absurd h.1 (by simp)) (yields_val (v := .pointer (some ⟨bB, 1, none⟩)) rfl (fun _ => by go_simp)) ⟨H.rw_ (by repeat (first | exact Take.head | apply Take.tail)), H.rw_ (by repeat (first | exact Take.head | apply Take.tail))⟩ ?_
            (try simp only [Act.put, List.setIfInBounds_toArray, List.set_cons_succ, List.set_cons_zero])
            refine takeH (i := 1) rfl (.there .here) (by kernel_rfl) (by kernel_rfl) (by kernel_rfl) (fun _ _ _ h => absurd h.1 (by simp)) (yields_load1_R rfl rfl rfl (fun _ hS => hS.1) rfl) ⟨H.rw_ (by repeat (first | exact Take.head | apply Take.tail)), H.rw_ (by repeat (first | exact Take.head | apply Take.tail))⟩ ?_
            (try simp only [Act.put, List.setIfInBounds_toArray, List.set_cons_succ, List.set_cons_zero])
            refine takeH (i := 2) rfl (.there (.there .here)) (by kernel_rfl) (by kernel_rfl) (by kernel_rfl) (fun _ _ _ h => absurd h.1 (by simp)) (yields_val (v := (.int .i64 k)) rfl (fun _ => by go_simp)) ⟨H.rw_ (by repeat (first | exact Take.head | apply Take.tail)), H.rw_ (by repeat (first | exact Take.head | apply Take.tail))⟩ ?_
            (try simp only [Act.put, List.setIfInBounds_toArray, List.set_cons_succ, List.set_cons_zero])
            refine takeH (i := 3) rfl (.there (.there (.there .here))) (by kernel_rfl) (by kernel_rfl) (by kernel_rfl) (fun _ _ _ h => absurd h.1 (by simp)) (yields_loads_R rfl rfl rfl (fun _ hS => hS.2) (by repeat (first | exact GetsAt.nil | apply GetsAt.here | apply GetsAt.there))) ⟨H.rw_ (by repeat (first | exact Take.head | apply Take.tail)), H.rw_ (by repeat (first | exact Take.head | apply Take.tail))⟩ ?_
            (try simp only [Act.put, List.setIfInBounds_toArray, List.set_cons_succ, List.set_cons_zero])
            refine takeH (i := 4) rfl (.there (.there (.there (.there .here)))) (by kernel_rfl) (by kernel_rfl) (by kernel_rfl) (fun _ _ _ h => absurd h.1 (by simp)) (yields_val (v := noExit.val) rfl (fun _ => by go_simp)) ⟨H.rw_ (by repeat (first | exact Take.head | apply Take.tail)), H.rw_ (by repeat (first | exact Take.head | apply Take.tail))⟩ ?_
            (try simp only [Act.put, List.setIfInBounds_toArray, List.set_cons_succ, List.set_cons_zero])
            refine anyH_1 (i := 5) (by kernel_rfl) ?_
            refine wpOp_at rfl (.there (.there (.there (.there (.there .here))))) rfl ?_
            refine wp_call_H Try.f153 rfl rfl Try.func153 (by kernel_rfl) rfl rfl (made_H H ((specStopped_c (y : GV) noExit _ rfl _ (gz_rd (H.grdmany (by repeat (first | exact Take.head | apply Take.tail)) y (List.mem_of_getElem? HK.out)) rfl rfl rfl rfl) (Zd.gsi y (List.mem_of_getElem? HK.out))).mono fun _ _ h => mkg h)) ?_
            clear H
            rintro _ w ⟨q0, rfl, Hq0, H⟩
            have zq0 : GBig q0 := gbig_mm (m := stoppedM (y : GV).m noExit) (show MBig y.m from (Zd.gsi y (List.mem_of_getElem? HK.out)).m) (by show _ = _; rw [Hq0.out])
            refine ⟨⟨H.rw_ (by repeat (first | exact Take.head | apply Take.tail)), H.rw_ (by repeat (first | exact Take.head | apply Take.tail))⟩, ?_⟩
            (try simp only [Act.put, List.setIfInBounds_toArray, List.set_cons_succ, List.set_cons_zero])
            refine anyH_1 (i := 6) (by kernel_rfl) ?_
            refine wpOp_at rfl (.there (.there (.there (.there (.there (.there .here)))))) rfl ?_
            refine wp_call_H Try.f152 rfl rfl Try.func152 (by kernel_rfl) rfl rfl (made_H H ((specMoved_c q0 _ rfl _ (H.grd1 (by repeat (first | exact Take.head | apply Take.tail))) zq0).mono fun _ _ h => mkg h)) ?_
            clear H
            rintro _ w ⟨q1, rfl, Hq1, H⟩
            have zq1 : GBig q1 := gbig_mm (m := movedM (stoppedM (y : GV).m noExit)) (show MBig y.m from (Zd.gsi y (List.mem_of_getElem? HK.out)).m) (by show _ = _; rw [Hq1.out, Hq0.out])
            refine ⟨⟨H.rw_ (by repeat (first | exact Take.head | apply Take.tail)), H.rw_ (by repeat (first | exact Take.head | apply Take.tail))⟩, ?_⟩
            (try simp only [Act.put, List.setIfInBounds_toArray, List.set_cons_succ, List.set_cons_zero])
            refine anyH_1 (i := 7) (by kernel_rfl) ?_
            refine wpOp_at rfl (.there (.there (.there (.there (.there (.there (.there .here))))))) rfl ?_
            refine wp_index_n rfl d.gs (H.rdgsl (by repeat (first | exact Take.head | apply Take.tail))) rfl rfl rfl (by rw [m_glen HD]; exact hk) ?_
            refine ⟨⟨H.rw_ (by repeat (first | exact Take.head | apply Take.tail)), H.rw_ (by repeat (first | exact Take.head | apply Take.tail))⟩, ?_⟩
            (try simp only [Act.put, List.setIfInBounds_toArray, List.set_cons_succ, List.set_cons_zero])
            refine anyH_1 (i := 8) (by kernel_rfl) ?_
            refine wpOp_at rfl (.there (.there (.there (.there (.there (.there (.there (.there .here)))))))) rfl ?_
            refine wp_store_el rfl H d.gs (by repeat (first | exact Take.head | apply Take.tail)) g_len rfl rfl y q1 HK.out (Nat.add_zero _).symm (by first | exact CellsOf.agg | exact CellsOf.int | exact CellsOf.bool | exact CellsOf.slice | exact CellsOf.string | exact CellsOf.pointer | exact CellsOf.func) (by repeat (first | exact SetsAt.nil | apply SetsAt.here | apply SetsAt.there)) (by exact rfl) (by exact rfl) ?_
            clear H
            intro w H
            refine ⟨⟨H.rw_ (by repeat (first | exact Take.head | apply Take.tail)), H.rw_ (by repeat (first | exact Take.head | apply Take.tail))⟩, ?_⟩
            (try simp only [Act.put, List.setIfInBounds_toArray, List.set_cons_succ, List.set_cons_zero])
            refine wpAnyH_done (by kernel_rfl) ?_ _
            exact ⟨rfl, q0, q1, (by show _ = _; rw [Hq1.out, Hq0.out]), H.pick (.cons (by repeat (first | exact Take.head | apply Take.tail)) (.cons (by repeat (first | exact Take.head | apply Take.tail)) (.cons (by repeat (first | exact Take.head | apply Take.tail)) (.cons (by repeat (first | exact Take.head | apply Take.tail)) (.cons (by repeat (first | exact Take.head | apply Take.tail)) (.cons (by repeat (first | exact Take.head | apply Take.tail)) (.cons (by repeat (first | exact Take.head | apply Take.tail)) (.cons (by repeat (first | exact Take.head | apply Take.tail)) .nil)))))))), by first | (simp only [puts_cons, puts_nil, Act.put, List.setIfInBounds_toArray, List.set_cons_succ, List.set_cons_zero]; done) | (simp only [puts_cons, puts_nil, Act.put, List.setIfInBounds_toArray, List.set_cons_succ, List.set_cons_zero]; rfl)⟩
          clear H
          rintro u w ⟨q0, q1, HQ, H, rfl⟩
          simp only [puts_cons, puts_nil, Act.put, List.setIfInBounds_toArray, List.set_cons_succ, List.set_cons_zero]
          replace H := H.many_set (by rw [m_glen HD]; exact hk)
          go_wp2_with (first
            | go_skip
            | ((with_reducible refine at_box ?_); first | (refine wpList_box_H rfl rfl H rfl (by first | exact CellsOf.agg | exact CellsOf.int | exact CellsOf.bool | exact CellsOf.slice | exact CellsOf.string | exact CellsOf.pointer | exact CellsOf.func) ?_; clear H; intro b w H))
            | ((with_reducible refine at_alloc ?_); first | (refine wpList_alloc_H rfl rfl H ?_; clear H; intro b w H))
            | ((with_reducible refine at_load ?_); first | (refine wpList_load_H rfl rfl H rfl (by repeat (first | exact LoadAt.here rfl | apply LoadAt.there)) ?_) | (refine wpList_loads_H rfl rfl H rfl (by repeat (first | (apply LoadsAt.here; repeat (first | exact GetsAt.nil | apply GetsAt.here | apply GetsAt.there)) | apply LoadsAt.there)) ?_))
            | ((with_reducible refine at_store ?_); first | (refine wpList_store_H rfl rfl H rfl rfl (by repeat (first | (apply StoreAt.here; (first | exact CellsOf.agg | exact CellsOf.int | exact CellsOf.bool | exact CellsOf.slice | exact CellsOf.string | exact CellsOf.pointer | exact CellsOf.func); (repeat (first | exact SetsAt.nil | apply SetsAt.here | apply SetsAt.there)); exact rfl; exact rfl) | apply StoreAt.there)) ?_; clear H; intro w H)))
          refine bodyPost_ret (results_H2 rfl H rfl (by repeat (first | (apply LoadsAt.here; repeat (first | exact GetsAt.nil | apply GetsAt.here | apply GetsAt.there)) | apply LoadsAt.there))) rfl ⟨⟨d.mem, ⟨d.gs.A, d.gs.c, d.gs.xs.set k q1⟩, d.outs, d.pend⟩, by rw [HO.out]; simp [BV.val], ?_, H.bare5 (.cons (by repeat (first | exact Take.head | apply Take.tail)) (.cons (by repeat (first | exact Take.head | apply Take.tail)) (.cons (by repeat (first | exact Take.head | apply Take.tail)) (.cons (by repeat (first | exact Take.head | apply Take.tail)) (.cons (by repeat (first | exact Take.head | apply Take.tail)) .nil))))) rfl rfl⟩
          rw [ch_hit (by first | exact HO.out | (rw [HO.out]; rfl))]
          refine wg_put HD HK (F := (answerG kd v)) ?_
          rw [HQ.out]
          have hkd' := e2
          unfold answerG; rw [if_neg (by simpa using hkd')]
      · skip
        have HO : Hid (chOkM B.m k cb = true) := by show _ = _; rw [ho, HCB.out]; rw [e2]; rfl
        clear ho
        have H := Hp.start W0
        go_enter Try.func73, Try.ntmps73
        go_wp2_with (first
          | go_skip
          | ((with_reducible refine at_box ?_); first | (refine wpList_box_H (cs := (barr B).toList) rfl rfl H rfl CellsOf.agg ?_; clear H; intro bB w H) | (refine wpList_box_H rfl rfl H rfl (by first | exact CellsOf.agg | exact CellsOf.int | exact CellsOf.bool | exact CellsOf.slice | exact CellsOf.string | exact CellsOf.pointer | exact CellsOf.func) ?_; clear H; intro b w H))
          | ((with_reducible refine at_alloc ?_); first | ((with_reducible refine at_dst 6 ?_); refine wpList_alloc_H rfl rfl H ?_; clear H; intro bR w H) | ((with_reducible refine at_dst 8 ?_); refine wpList_alloc_H rfl rfl H ?_; clear H; intro bX w H) | (refine wpList_alloc_H rfl rfl H ?_; clear H; intro b w H))
          | ((with_reducible refine at_load ?_); first | (refine wpList_loads_rd rfl rfl d.gs (H.rdgsl (by repeat (first | exact Take.head | apply Take.tail))) rfl y HK.out (by repeat (first | exact GetsAt.nil | apply GetsAt.here | apply GetsAt.there)) ?_) | (refine wpList_load_H rfl rfl H rfl (by repeat (first | exact LoadAt.here rfl | apply LoadAt.there)) ?_) | (refine wpList_loads_H rfl rfl H rfl (by repeat (first | (apply LoadsAt.here; repeat (first | exact GetsAt.nil | apply GetsAt.here | apply GetsAt.there)) | apply LoadsAt.there)) ?_))
          | ((with_reducible refine at_store ?_); first | (refine wpList_store_H rfl rfl H rfl rfl (by repeat (first | (apply StoreAt.here; (first | exact CellsOf.agg | exact CellsOf.int | exact CellsOf.bool | exact CellsOf.slice | exact CellsOf.string | exact CellsOf.pointer | exact CellsOf.func); (repeat (first | exact SetsAt.nil | apply SetsAt.here | apply SetsAt.there)); exact rfl; exact rfl) | apply StoreAt.there)) ?_; clear H; intro w H))
          | ((with_reducible refine at_index ?_); first | (refine wpList_index_n rfl rfl d.gs (H.rdgsl (by repeat (first | exact Take.head | apply Take.tail))) rfl rfl rfl (by rw [m_glen HD]; exact hk) ?_))
          | (go_at_call 124; refine (l17Copy_c B _ (R.at_ H) Z).mono ?_; rintro e w ⟨d, rfl, x1, K⟩; have HD := Lib.hid x1; clear x1; have Zd := m_big HD Z; replace H := (H.add_all K); clear K; obtain ⟨y, hy⟩ : ∃ y, d.gs.xs[k]? = some y := ⟨_, List.getElem?_eq_getElem (by rw [m_glen HD]; exact hk)⟩; have HK := Lib.hid hy; clear hy; have HY : Hid (y.exit.kind = kd) := (by show _ = _; have h := (gAtM_hit HK.out).1; rw [HD.out] at h; have h2 := HKD.out; rw [h] at h2; exact h2); have e2y : (y.exit.kind == 2) = true := (by rw [HY.out]; exact e2); skip)
          | (go_at_call 136; refine (l19Is_c d k _ (H.brd (by repeat (first | exact Take.head | apply Take.tail))) Zd).mono ?_; rintro e w ⟨he, K⟩; rw [HD.out, e1] at he; subst he; replace H := H.add_all K; clear K; replace H := (H.take (e := .bare d) (by repeat (first | exact Take.head | apply Take.tail))).bparts)
          | (go_at_call 98; refine (in_any _ _ _ _).mono ?_; rintro e w' ⟨he, hw⟩; subst hw; rw [ev] at he; subst he))
        refine wp_cut (fun u a' w' => ∃ (q0 : GV) (q1 : GV), Hid (q1.m = movedM (stoppedM (⟨y.prog, v, y.pc, y.written, y.live, y.ctl, y.pending, y.exit, y.halted, y.seen⟩ : GV).m noExit)) ∧ Hp W0 w' [.gst q1, .many En.gst d.gs.xs, .gsl ⟨d.gs.A, d.gs.c, d.gs.xs.set k q1⟩, .rows d.mem, .many En.int d.mem.xs, .int d.outs, .box bB 33 (barr d).toList, .box bR 33 [.slice none 0 0, .slice none 0 0, .slice none 0 0, .int .i64 0]] ∧ a' = puts u [(36, .pointer (some ⟨bB, 1, none⟩)), (37, .slice d.gs.A d.gs.xs.length d.gs.c), (38, (.int .i64 k)), (39, (⟨y.prog, v, y.pc, y.written, y.live, y.ctl, y.pending, y.exit, y.halted, y.seen⟩ : GV).val), (40, noExit.val), (41, q0.val), (42, q1.val), (43, (.pointer (some ⟨ablk d.gs.A, aoff d.gs.A + k * 15, none⟩)))]) ?_ ?_
        · refine wp_region_held (S := (fun w' => Rw w' bB 33 (barr d) ∧ Rw w' bX 50 (garr (⟨y.prog, v, y.pc, y.written, y.live, y.ctl, y.pending, y.exit, y.halted, y.seen⟩ : GV)))) (by kernel_rfl) ?_
          replace H := H.drew
          refine takeH (i := 0) rfl .here (by kernel_rfl) (by kernel_rfl) (by kernel_rfl) (fun _ _ _ h => absurd h.1 (by simp)) (yields_val (v := .pointer (some ⟨bB, 1, none⟩)) rfl (fun _ => by go_simp)) ⟨H.rw_ (by repeat (first | exact Take.head | apply Take.tail)), H.rw_ (by repeat (first | exact Take.head | apply Take.tail))⟩ ?_
          (try simp only [Act.put, List.setIfInBounds_toArray, List.set_cons_succ, List.set_cons_zero])
          refine takeH (i := 1) rfl (.there .here) (by kernel_rfl) (by kernel_rfl) (by kernel_rfl) (fun _ _ _ h => absurd h.1 (by simp)) (yields_load1_R rfl rfl rfl (fun _ hS => hS.1) rfl) ⟨H.rw_ (by repeat (first | exact Take.head | apply Take.tail)), H.rw_ (by repeat (first | exact Take.head | apply Take.tail))⟩ ?_
          (try simp only [Act.put, List.setIfInBounds_toArray, List.set_cons_succ, List.set_cons_zero])
          refine takeH (i := 2) rfl (.there (.there .here)) (by kernel_rfl) (by kernel_rfl) (by kernel_rfl) (fun _ _ _ h => absurd h.1 (by simp)) (yields_val (v := (.int .i64 k)) rfl (fun _ => by go_simp)) ⟨H.rw_ (by repeat (first | exact Take.head | apply Take.tail)), H.rw_ (by repeat (first | exact Take.head | apply Take.tail))⟩ ?_
          (try simp only [Act.put, List.setIfInBounds_toArray, List.set_cons_succ, List.set_cons_zero])
          refine takeH (i := 3) rfl (.there (.there (.there .here))) (by kernel_rfl) (by kernel_rfl) (by kernel_rfl) (fun _ _ _ h => absurd h.1 (by simp)) (yields_loads_R rfl rfl rfl (fun _ hS => hS.2) (by repeat (first | exact GetsAt.nil | apply GetsAt.here | apply GetsAt.there))) ⟨H.rw_ (by repeat (first | exact Take.head | apply Take.tail)), H.rw_ (by repeat (first | exact Take.head | apply Take.tail))⟩ ?_
          (try simp only [Act.put, List.setIfInBounds_toArray, List.set_cons_succ, List.set_cons_zero])
          refine takeH (i := 4) rfl (.there (.there (.there (.there .here)))) (by kernel_rfl) (by kernel_rfl) (by kernel_rfl) (fun _ _ _ h => absurd h.1 (by simp)) (yields_val (v := noExit.val) rfl (fun _ => by go_simp)) ⟨H.rw_ (by repeat (first | exact Take.head | apply Take.tail)), H.rw_ (by repeat (first | exact Take.head | apply Take.tail))⟩ ?_
          (try simp only [Act.put, List.setIfInBounds_toArray, List.set_cons_succ, List.set_cons_zero])
          refine anyH_1 (i := 5) (by kernel_rfl) ?_
          refine wpOp_at rfl (.there (.there (.there (.there (.there .here))))) rfl ?_
          refine wp_call_H Try.f153 rfl rfl Try.func153 (by kernel_rfl) rfl rfl (made_H H ((specStopped_c (⟨y.prog, v, y.pc, y.written, y.live, y.ctl, y.pending, y.exit, y.halted, y.seen⟩ : GV) noExit _ rfl _ (gz_rd (H.grdmany (by repeat (first | exact Take.head | apply Take.tail)) y (List.mem_of_getElem? HK.out)) rfl rfl rfl rfl) (Zd.gsi y (List.mem_of_getElem? HK.out))).mono fun _ _ h => mkg h)) ?_
          clear H
          rintro _ w ⟨q0, rfl, Hq0, H⟩
          have zq0 : GBig q0 := gbig_mm (m := stoppedM (⟨y.prog, v, y.pc, y.written, y.live, y.ctl, y.pending, y.exit, y.halted, y.seen⟩ : GV).m noExit) (show MBig y.m from (Zd.gsi y (List.mem_of_getElem? HK.out)).m) (by show _ = _; rw [Hq0.out])
          refine ⟨⟨H.rw_ (by repeat (first | exact Take.head | apply Take.tail)), H.rw_ (by repeat (first | exact Take.head | apply Take.tail))⟩, ?_⟩
          (try simp only [Act.put, List.setIfInBounds_toArray, List.set_cons_succ, List.set_cons_zero])
          refine anyH_1 (i := 6) (by kernel_rfl) ?_
          refine wpOp_at rfl (.there (.there (.there (.there (.there (.there .here)))))) rfl ?_
          refine wp_call_H Try.f152 rfl rfl Try.func152 (by kernel_rfl) rfl rfl (made_H H ((specMoved_c q0 _ rfl _ (H.grd1 (by repeat (first | exact Take.head | apply Take.tail))) zq0).mono fun _ _ h => mkg h)) ?_
          clear H
          rintro _ w ⟨q1, rfl, Hq1, H⟩
          have zq1 : GBig q1 := gbig_mm (m := movedM (stoppedM (⟨y.prog, v, y.pc, y.written, y.live, y.ctl, y.pending, y.exit, y.halted, y.seen⟩ : GV).m noExit)) (show MBig y.m from (Zd.gsi y (List.mem_of_getElem? HK.out)).m) (by show _ = _; rw [Hq1.out, Hq0.out])
          refine ⟨⟨H.rw_ (by repeat (first | exact Take.head | apply Take.tail)), H.rw_ (by repeat (first | exact Take.head | apply Take.tail))⟩, ?_⟩
          (try simp only [Act.put, List.setIfInBounds_toArray, List.set_cons_succ, List.set_cons_zero])
          refine anyH_1 (i := 7) (by kernel_rfl) ?_
          refine wpOp_at rfl (.there (.there (.there (.there (.there (.there (.there .here))))))) rfl ?_
          refine wp_index_n rfl d.gs (H.rdgsl (by repeat (first | exact Take.head | apply Take.tail))) rfl rfl rfl (by rw [m_glen HD]; exact hk) ?_
          refine ⟨⟨H.rw_ (by repeat (first | exact Take.head | apply Take.tail)), H.rw_ (by repeat (first | exact Take.head | apply Take.tail))⟩, ?_⟩
          (try simp only [Act.put, List.setIfInBounds_toArray, List.set_cons_succ, List.set_cons_zero])
          refine anyH_1 (i := 8) (by kernel_rfl) ?_
          refine wpOp_at rfl (.there (.there (.there (.there (.there (.there (.there (.there .here)))))))) rfl ?_
          refine wp_store_el rfl H d.gs (by repeat (first | exact Take.head | apply Take.tail)) g_len rfl rfl y q1 HK.out (Nat.add_zero _).symm (by first | exact CellsOf.agg | exact CellsOf.int | exact CellsOf.bool | exact CellsOf.slice | exact CellsOf.string | exact CellsOf.pointer | exact CellsOf.func) (by repeat (first | exact SetsAt.nil | apply SetsAt.here | apply SetsAt.there)) (by exact rfl) (by exact rfl) ?_
          clear H
          intro w H
          refine ⟨⟨H.rw_ (by repeat (first | exact Take.head | apply Take.tail)), H.rw_ (by repeat (first | exact Take.head | apply Take.tail))⟩, ?_⟩
          (try simp only [Act.put, List.setIfInBounds_toArray, List.set_cons_succ, List.set_cons_zero])
          refine wpAnyH_done (by kernel_rfl) ?_ _
          exact ⟨rfl, q0, q1, (by show _ = _; rw [Hq1.out, Hq0.out]), H.pick (.cons (by repeat (first | exact Take.head | apply Take.tail)) (.cons (by repeat (first | exact Take.head | apply Take.tail)) (.cons (by repeat (first | exact Take.head | apply Take.tail)) (.cons (by repeat (first | exact Take.head | apply Take.tail)) (.cons (by repeat (first | exact Take.head | apply Take.tail)) (.cons (by repeat (first | exact Take.head | apply Take.tail)) (.cons (by repeat (first | exact Take.head | apply Take.tail)) (.cons (by repeat (first | exact Take.head | apply Take.tail)) .nil)))))))), by first | (simp only [puts_cons, puts_nil, Act.put, List.setIfInBounds_toArray, List.set_cons_succ, List.set_cons_zero]; done) | (simp only [puts_cons, puts_nil, Act.put, List.setIfInBounds_toArray, List.set_cons_succ, List.set_cons_zero]; rfl)⟩
        clear H
        rintro u w ⟨q0, q1, HQ, H, rfl⟩
        simp only [puts_cons, puts_nil, Act.put, List.setIfInBounds_toArray, List.set_cons_succ, List.set_cons_zero]
        replace H := H.many_set (by rw [m_glen HD]; exact hk)
        go_wp2_with (first
          | go_skip
          | ((with_reducible refine at_box ?_); first | (refine wpList_box_H rfl rfl H rfl (by first | exact CellsOf.agg | exact CellsOf.int | exact CellsOf.bool | exact CellsOf.slice | exact CellsOf.string | exact CellsOf.pointer | exact CellsOf.func) ?_; clear H; intro b w H))
          | ((with_reducible refine at_alloc ?_); first | (refine wpList_alloc_H rfl rfl H ?_; clear H; intro b w H))
          | ((with_reducible refine at_load ?_); first | (refine wpList_load_H rfl rfl H rfl (by repeat (first | exact LoadAt.here rfl | apply LoadAt.there)) ?_) | (refine wpList_loads_H rfl rfl H rfl (by repeat (first | (apply LoadsAt.here; repeat (first | exact GetsAt.nil | apply GetsAt.here | apply GetsAt.there)) | apply LoadsAt.there)) ?_))
          | ((with_reducible refine at_store ?_); first | (refine wpList_store_H rfl rfl H rfl rfl (by repeat (first | (apply StoreAt.here; (first | exact CellsOf.agg | exact CellsOf.int | exact CellsOf.bool | exact CellsOf.slice | exact CellsOf.string | exact CellsOf.pointer | exact CellsOf.func); (repeat (first | exact SetsAt.nil | apply SetsAt.here | apply SetsAt.there)); exact rfl; exact rfl) | apply StoreAt.there)) ?_; clear H; intro w H)))
        refine bodyPost_ret (results_H2 rfl H rfl (by repeat (first | (apply LoadsAt.here; repeat (first | exact GetsAt.nil | apply GetsAt.here | apply GetsAt.there)) | apply LoadsAt.there))) rfl ⟨⟨d.mem, ⟨d.gs.A, d.gs.c, d.gs.xs.set k q1⟩, d.outs, d.pend⟩, by rw [HO.out]; simp [BV.val], ?_, H.bare5 (.cons (by repeat (first | exact Take.head | apply Take.tail)) (.cons (by repeat (first | exact Take.head | apply Take.tail)) (.cons (by repeat (first | exact Take.head | apply Take.tail)) (.cons (by repeat (first | exact Take.head | apply Take.tail)) (.cons (by repeat (first | exact Take.head | apply Take.tail)) .nil))))) rfl rfl⟩
        rw [ch_hit (by first | exact HO.out | (rw [HO.out]; rfl))]
        refine wg_put HD HK (F := (answerG kd v)) ?_
        rw [HQ.out]
        have hkd' := e2
        unfold answerG; rw [if_pos (by simpa using hkd')]
        all_goals rfl
set_option linter.unusedSimpArgs false in
set_option linter.unusedVariables false in
set_option maxRecDepth 100000 in
set_option maxHeartbeats 4000000 in
theorem specBareResume_c (B : BV) (g : Int) (W0 : World) (R : BRd W0 B) (Z : BBig B) : Calls Try.prog 75 #[B.val, .int .i64 g] W0 fun e w' => ∃ d : BV, e = .returned (.tuple #[d.val, .bool (chOkM B.m g (resC B.m g))]) ∧ d.m = changedM B.m g (resC B.m g) (resF B.m g) ∧ Hp W0 w' [.bare d] := by
  have ho : chOkM B.m g (resC B.m g) = ((bareOkM B.m && hasM B.m g) && (resC B.m g)) := rfl
  cases e1 : (bareOkM B.m && hasM B.m g)
  case false =>
    rw [e1, Bool.false_and] at ho
    have HO := Lib.hid ho
    clear ho
    have H := Hp.start W0
    go_enter Try.func75, Try.ntmps75
    go_wp2_with (first
      | go_skip
      | ((with_reducible refine at_box ?_); first | (refine wpList_box_H (cs := (barr B).toList) rfl rfl H rfl CellsOf.agg ?_; clear H; intro bB w H) | (refine wpList_box_H rfl rfl H rfl (by first | exact CellsOf.agg | exact CellsOf.int | exact CellsOf.bool | exact CellsOf.slice | exact CellsOf.string | exact CellsOf.pointer | exact CellsOf.func) ?_; clear H; intro b w H))
      | ((with_reducible refine at_alloc ?_); first | ((with_reducible refine at_dst 4 ?_); refine wpList_alloc_H rfl rfl H ?_; clear H; intro bR w H) | (refine wpList_alloc_H rfl rfl H ?_; clear H; intro b w H))
      | ((with_reducible refine at_load ?_); first | (refine wpList_load_H rfl rfl H rfl (by repeat (first | exact LoadAt.here rfl | apply LoadAt.there)) ?_) | (refine wpList_loads_H rfl rfl H rfl (by repeat (first | (apply LoadsAt.here; repeat (first | exact GetsAt.nil | apply GetsAt.here | apply GetsAt.there)) | apply LoadsAt.there)) ?_))
      | ((with_reducible refine at_store ?_); first | (refine wpList_store_H rfl rfl H rfl rfl (by repeat (first | (apply StoreAt.here; (first | exact CellsOf.agg | exact CellsOf.int | exact CellsOf.bool | exact CellsOf.slice | exact CellsOf.string | exact CellsOf.pointer | exact CellsOf.func); (repeat (first | exact SetsAt.nil | apply SetsAt.here | apply SetsAt.there)); exact rfl; exact rfl) | apply StoreAt.there)) ?_; clear H; intro w H))
      | (go_at_call 124; refine (l17Copy_c B _ (R.at_ H) Z).mono ?_; rintro e w ⟨d, rfl, x1, K⟩; have HD := Lib.hid x1; clear x1; have Zd := m_big HD Z; replace H := (H.add_all K); clear K)
      | (go_at_call 136; refine (l19Is_c d g _ (H.brd (by repeat (first | exact Take.head | apply Take.tail))) Zd).mono ?_; rintro e w ⟨he, K⟩; rw [HD.out, e1] at he; subst he; replace H := H.add_all K; clear K))
    refine bodyPost_ret (results_H2 rfl H rfl (by repeat (first | (apply LoadsAt.here; repeat (first | exact GetsAt.nil | apply GetsAt.here | apply GetsAt.there)) | apply LoadsAt.there))) rfl ⟨d, by rw [HO.out]; rfl, by unfold changedM; rw [HO.out]; exact HD.out, H.pick (.cons (by repeat (first | exact Take.head | apply Take.tail)) .nil)⟩
  case true =>
    rw [e1, Bool.true_and] at ho
    have hg : 0 ≤ g ∧ g < B.gs.xs.length := by simp only [Bool.and_eq_true] at e1; simpa [hasM, hasB, BV.m, gsOf] using e1.2
    obtain ⟨k, rfl⟩ := Int.eq_ofNat_of_zero_le hg.1
    have hk : k < B.gs.xs.length := by omega
    clear hg
    obtain ⟨kd, hkd⟩ : ∃ kd, kd = (gAtM B.m k).exit.kind := ⟨_, rfl⟩
    have HC : (resC B.m k) = (kd == 1 || kd == 4) := by unfold resC; rw [← hkd]
    have HF : (resF B.m k) = (resumeG kd) := by unfold resF; rw [← hkd]
    rw [HC] at ho ⊢
    rw [HF]
    clear HC HF
    obtain ⟨cb, hcb⟩ : ∃ cb, cb = (kd == 1 || kd == 4) := ⟨_, rfl⟩
    rw [← hcb] at ho ⊢
    have HCB := Lib.hid hcb
    clear hcb
    have HKD := Lib.hid hkd.symm
    clear hkd
    cases e1' : (kd == 1)
    · cases e4 : (kd == 4)
      · skip
        have HO : Hid (chOkM B.m k cb = false) := by show _ = _; rw [ho, HCB.out]; rw [e1', e4]; rfl
        clear ho
        have H := Hp.start W0
        go_enter Try.func75, Try.ntmps75
        go_wp2_with (first
          | go_skip
          | ((with_reducible refine at_box ?_); first | (refine wpList_box_H (cs := (barr B).toList) rfl rfl H rfl CellsOf.agg ?_; clear H; intro bB w H) | (refine wpList_box_H rfl rfl H rfl (by first | exact CellsOf.agg | exact CellsOf.int | exact CellsOf.bool | exact CellsOf.slice | exact CellsOf.string | exact CellsOf.pointer | exact CellsOf.func) ?_; clear H; intro b w H))
          | ((with_reducible refine at_alloc ?_); first | ((with_reducible refine at_dst 4 ?_); refine wpList_alloc_H rfl rfl H ?_; clear H; intro bR w H) | ((with_reducible refine at_dst 6 ?_); refine wpList_alloc_H rfl rfl H ?_; clear H; intro bX w H) | (refine wpList_alloc_H rfl rfl H ?_; clear H; intro b w H))
          | ((with_reducible refine at_load ?_); first | (refine wpList_loads_rd rfl rfl d.gs (H.rdgsl (by repeat (first | exact Take.head | apply Take.tail))) rfl y HK.out (by repeat (first | exact GetsAt.nil | apply GetsAt.here | apply GetsAt.there)) ?_) | (refine wpList_load_H rfl rfl H rfl (by repeat (first | exact LoadAt.here rfl | apply LoadAt.there)) ?_) | (refine wpList_loads_H rfl rfl H rfl (by repeat (first | (apply LoadsAt.here; repeat (first | exact GetsAt.nil | apply GetsAt.here | apply GetsAt.there)) | apply LoadsAt.there)) ?_))
          | ((with_reducible refine at_store ?_); first | (refine wpList_store_H rfl rfl H rfl rfl (by repeat (first | (apply StoreAt.here; (first | exact CellsOf.agg | exact CellsOf.int | exact CellsOf.bool | exact CellsOf.slice | exact CellsOf.string | exact CellsOf.pointer | exact CellsOf.func); (repeat (first | exact SetsAt.nil | apply SetsAt.here | apply SetsAt.there)); exact rfl; exact rfl) | apply StoreAt.there)) ?_; clear H; intro w H))
          | ((with_reducible refine at_index ?_); first | (refine wpList_index_n rfl rfl d.gs (H.rdgsl (by repeat (first | exact Take.head | apply Take.tail))) rfl rfl rfl (by rw [m_glen HD]; exact hk) ?_))
          | (go_at_call 124; refine (l17Copy_c B _ (R.at_ H) Z).mono ?_; rintro e w ⟨d, rfl, x1, K⟩; have HD := Lib.hid x1; clear x1; have Zd := m_big HD Z; replace H := (H.add_all K); clear K; obtain ⟨y, hy⟩ : ∃ y, d.gs.xs[k]? = some y := ⟨_, List.getElem?_eq_getElem (by rw [m_glen HD]; exact hk)⟩; have HK := Lib.hid hy; clear hy; have HY : Hid (y.exit.kind = kd) := (by show _ = _; have h := (gAtM_hit HK.out).1; rw [HD.out] at h; have h2 := HKD.out; rw [h] at h2; exact h2); have e1y : (y.exit.kind == 1) = false := (by rw [HY.out]; exact e1'); have e4y : (y.exit.kind == 4) = false := (by rw [HY.out]; exact e4); skip)
          | (go_at_call 136; refine (l19Is_c d k _ (H.brd (by repeat (first | exact Take.head | apply Take.tail))) Zd).mono ?_; rintro e w ⟨he, K⟩; rw [HD.out, e1] at he; subst he; replace H := H.add_all K; clear K; replace H := (H.take (e := .bare d) (by repeat (first | exact Take.head | apply Take.tail))).bparts))
        refine bodyPost_ret (results_H2 rfl H rfl (by repeat (first | (apply LoadsAt.here; repeat (first | exact GetsAt.nil | apply GetsAt.here | apply GetsAt.there)) | apply LoadsAt.there))) rfl ⟨d, by rw [HO.out]; rfl, by unfold changedM; rw [HO.out]; exact HD.out, H.bare5 (.cons (by repeat (first | exact Take.head | apply Take.tail)) (.cons (by repeat (first | exact Take.head | apply Take.tail)) (.cons (by repeat (first | exact Take.head | apply Take.tail)) (.cons (by repeat (first | exact Take.head | apply Take.tail)) (.cons (by repeat (first | exact Take.head | apply Take.tail)) .nil))))) rfl rfl⟩
      · skip
        have HO : Hid (chOkM B.m k cb = true) := by show _ = _; rw [ho, HCB.out]; rw [e1', e4]; rfl
        clear ho
        have H := Hp.start W0
        go_enter Try.func75, Try.ntmps75
        go_wp2_with (first
          | go_skip
          | ((with_reducible refine at_box ?_); first | (refine wpList_box_H (cs := (barr B).toList) rfl rfl H rfl CellsOf.agg ?_; clear H; intro bB w H) | (refine wpList_box_H rfl rfl H rfl (by first | exact CellsOf.agg | exact CellsOf.int | exact CellsOf.bool | exact CellsOf.slice | exact CellsOf.string | exact CellsOf.pointer | exact CellsOf.func) ?_; clear H; intro b w H))
          | ((with_reducible refine at_alloc ?_); first | ((with_reducible refine at_dst 4 ?_); refine wpList_alloc_H rfl rfl H ?_; clear H; intro bR w H) | ((with_reducible refine at_dst 6 ?_); refine wpList_alloc_H rfl rfl H ?_; clear H; intro bX w H) | (refine wpList_alloc_H rfl rfl H ?_; clear H; intro b w H))
          | ((with_reducible refine at_load ?_); first | (refine wpList_loads_rd rfl rfl d.gs (H.rdgsl (by repeat (first | exact Take.head | apply Take.tail))) rfl y HK.out (by repeat (first | exact GetsAt.nil | apply GetsAt.here | apply GetsAt.there)) ?_) | (refine wpList_load_H rfl rfl H rfl (by repeat (first | exact LoadAt.here rfl | apply LoadAt.there)) ?_) | (refine wpList_loads_H rfl rfl H rfl (by repeat (first | (apply LoadsAt.here; repeat (first | exact GetsAt.nil | apply GetsAt.here | apply GetsAt.there)) | apply LoadsAt.there)) ?_))
          | ((with_reducible refine at_store ?_); first | (refine wpList_store_H rfl rfl H rfl rfl (by repeat (first | (apply StoreAt.here; (first | exact CellsOf.agg | exact CellsOf.int | exact CellsOf.bool | exact CellsOf.slice | exact CellsOf.string | exact CellsOf.pointer | exact CellsOf.func); (repeat (first | exact SetsAt.nil | apply SetsAt.here | apply SetsAt.there)); exact rfl; exact rfl) | apply StoreAt.there)) ?_; clear H; intro w H))
          | ((with_reducible refine at_index ?_); first | (refine wpList_index_n rfl rfl d.gs (H.rdgsl (by repeat (first | exact Take.head | apply Take.tail))) rfl rfl rfl (by rw [m_glen HD]; exact hk) ?_))
          | (go_at_call 124; refine (l17Copy_c B _ (R.at_ H) Z).mono ?_; rintro e w ⟨d, rfl, x1, K⟩; have HD := Lib.hid x1; clear x1; have Zd := m_big HD Z; replace H := (H.add_all K); clear K; obtain ⟨y, hy⟩ : ∃ y, d.gs.xs[k]? = some y := ⟨_, List.getElem?_eq_getElem (by rw [m_glen HD]; exact hk)⟩; have HK := Lib.hid hy; clear hy; have HY : Hid (y.exit.kind = kd) := (by show _ = _; have h := (gAtM_hit HK.out).1; rw [HD.out] at h; have h2 := HKD.out; rw [h] at h2; exact h2); have e1y : (y.exit.kind == 1) = false := (by rw [HY.out]; exact e1'); have e4y : (y.exit.kind == 4) = true := (by rw [HY.out]; exact e4); skip)
          | (go_at_call 136; refine (l19Is_c d k _ (H.brd (by repeat (first | exact Take.head | apply Take.tail))) Zd).mono ?_; rintro e w ⟨he, K⟩; rw [HD.out, e1] at he; subst he; replace H := H.add_all K; clear K; replace H := (H.take (e := .bare d) (by repeat (first | exact Take.head | apply Take.tail))).bparts))
        refine wp_cut (fun u a' w' => ∃ (q0 : GV) (q1 : GV), Hid (q1.m = heldM (stoppedM (y : GV).m noExit)) ∧ Hp W0 w' [.gst q1, .many En.gst d.gs.xs, .gsl ⟨d.gs.A, d.gs.c, d.gs.xs.set k q1⟩, .rows d.mem, .many En.int d.mem.xs, .int d.outs, .box bB 33 (barr d).toList, .box bR 33 [.slice none 0 0, .slice none 0 0, .slice none 0 0, .int .i64 0]] ∧ a' = puts u [(34, .pointer (some ⟨bB, 1, none⟩)), (35, .slice d.gs.A d.gs.xs.length d.gs.c), (36, (.int .i64 k)), (37, (y : GV).val), (38, noExit.val), (39, q0.val), (40, q1.val), (41, (.pointer (some ⟨ablk d.gs.A, aoff d.gs.A + k * 15, none⟩)))]) ?_ ?_
        · refine wp_region_held (S := (fun w' => Rw w' bB 33 (barr d) ∧ Rw w' bX 50 (garr (y : GV)))) (by kernel_rfl) ?_
          replace H := H.drew
          refine takeH (i := 0) rfl .here (by kernel_rfl) (by kernel_rfl) (by kernel_rfl) (fun _ _ _ h => absurd h.1 (by simp)) (yields_val (v := .pointer (some ⟨bB, 1, none⟩)) rfl (fun _ => by go_simp)) ⟨H.rw_ (by repeat (first | exact Take.head | apply Take.tail)), H.rw_ (by repeat (first | exact Take.head | apply Take.tail))⟩ ?_
          (try simp only [Act.put, List.setIfInBounds_toArray, List.set_cons_succ, List.set_cons_zero])
          refine takeH (i := 1) rfl (.there .here) (by kernel_rfl) (by kernel_rfl) (by kernel_rfl) (fun _ _ _ h => absurd h.1 (by simp)) (yields_load1_R rfl rfl rfl (fun _ hS => hS.1) rfl) ⟨H.rw_ (by repeat (first | exact Take.head | apply Take.tail)), H.rw_ (by repeat (first | exact Take.head | apply Take.tail))⟩ ?_
          (try simp only [Act.put, List.setIfInBounds_toArray, List.set_cons_succ, List.set_cons_zero])
          refine takeH (i := 2) rfl (.there (.there .here)) (by kernel_rfl) (by kernel_rfl) (by kernel_rfl) (fun _ _ _ h => absurd h.1 (by simp)) (yields_val (v := (.int .i64 k)) rfl (fun _ => by go_simp)) ⟨H.rw_ (by repeat (first | exact Take.head | apply Take.tail)), H.rw_ (by repeat (first | exact Take.head | apply Take.tail))⟩ ?_
          (try simp only [Act.put, List.setIfInBounds_toArray, List.set_cons_succ, List.set_cons_zero])
          refine takeH (i := 3) rfl (.there (.there (.there .here))) (by kernel_rfl) (by kernel_rfl) (by kernel_rfl) (fun _ _ _ h => absurd h.1 (by simp)) (yields_loads_R rfl rfl rfl (fun _ hS => hS.2) (by repeat (first | exact GetsAt.nil | apply GetsAt.here | apply GetsAt.there))) ⟨H.rw_ (by repeat (first | exact Take.head | apply Take.tail)), H.rw_ (by repeat (first | exact Take.head | apply Take.tail))⟩ ?_
          (try simp only [Act.put, List.setIfInBounds_toArray, List.set_cons_succ, List.set_cons_zero])
          refine takeH (i := 4) rfl (.there (.there (.there (.there .here)))) (by kernel_rfl) (by kernel_rfl) (by kernel_rfl) (fun _ _ _ h => absurd h.1 (by simp)) (yields_val (v := noExit.val) rfl (fun _ => by go_simp)) ⟨H.rw_ (by repeat (first | exact Take.head | apply Take.tail)), H.rw_ (by repeat (first | exact Take.head | apply Take.tail))⟩ ?_
          (try simp only [Act.put, List.setIfInBounds_toArray, List.set_cons_succ, List.set_cons_zero])
          refine anyH_1 (i := 5) (by kernel_rfl) ?_
          refine wpOp_at rfl (.there (.there (.there (.there (.there .here))))) rfl ?_
          refine wp_call_H Try.f153 rfl rfl Try.func153 (by kernel_rfl) rfl rfl (made_H H ((specStopped_c (y : GV) noExit _ rfl _ (gz_rd (H.grdmany (by repeat (first | exact Take.head | apply Take.tail)) y (List.mem_of_getElem? HK.out)) rfl rfl rfl rfl) (Zd.gsi y (List.mem_of_getElem? HK.out))).mono fun _ _ h => mkg h)) ?_
          clear H
          rintro _ w ⟨q0, rfl, Hq0, H⟩
          have zq0 : GBig q0 := gbig_mm (m := stoppedM (y : GV).m noExit) (show MBig y.m from (Zd.gsi y (List.mem_of_getElem? HK.out)).m) (by show _ = _; rw [Hq0.out])
          refine ⟨⟨H.rw_ (by repeat (first | exact Take.head | apply Take.tail)), H.rw_ (by repeat (first | exact Take.head | apply Take.tail))⟩, ?_⟩
          (try simp only [Act.put, List.setIfInBounds_toArray, List.set_cons_succ, List.set_cons_zero])
          refine anyH_1 (i := 6) (by kernel_rfl) ?_
          refine wpOp_at rfl (.there (.there (.there (.there (.there (.there .here)))))) rfl ?_
          refine wp_call_H Try.f157 rfl rfl Try.func157 (by kernel_rfl) rfl rfl (made_H H ((specHeld_c q0 _ rfl _ (H.grd1 (by repeat (first | exact Take.head | apply Take.tail))) zq0).mono fun _ _ h => mkg h)) ?_
          clear H
          rintro _ w ⟨q1, rfl, Hq1, H⟩
          have zq1 : GBig q1 := gbig_mm (m := heldM (stoppedM (y : GV).m noExit)) (show MBig y.m from (Zd.gsi y (List.mem_of_getElem? HK.out)).m) (by show _ = _; rw [Hq1.out, Hq0.out])
          refine ⟨⟨H.rw_ (by repeat (first | exact Take.head | apply Take.tail)), H.rw_ (by repeat (first | exact Take.head | apply Take.tail))⟩, ?_⟩
          (try simp only [Act.put, List.setIfInBounds_toArray, List.set_cons_succ, List.set_cons_zero])
          refine anyH_1 (i := 7) (by kernel_rfl) ?_
          refine wpOp_at rfl (.there (.there (.there (.there (.there (.there (.there .here))))))) rfl ?_
          refine wp_index_n rfl d.gs (H.rdgsl (by repeat (first | exact Take.head | apply Take.tail))) rfl rfl rfl (by rw [m_glen HD]; exact hk) ?_
          refine ⟨⟨H.rw_ (by repeat (first | exact Take.head | apply Take.tail)), H.rw_ (by repeat (first | exact Take.head | apply Take.tail))⟩, ?_⟩
          (try simp only [Act.put, List.setIfInBounds_toArray, List.set_cons_succ, List.set_cons_zero])
          refine anyH_1 (i := 8) (by kernel_rfl) ?_
          refine wpOp_at rfl (.there (.there (.there (.there (.there (.there (.there (.there .here)))))))) rfl ?_
          refine wp_store_el rfl H d.gs (by repeat (first | exact Take.head | apply Take.tail)) g_len rfl rfl y q1 HK.out (Nat.add_zero _).symm (by first | exact CellsOf.agg | exact CellsOf.int | exact CellsOf.bool | exact CellsOf.slice | exact CellsOf.string | exact CellsOf.pointer | exact CellsOf.func) (by repeat (first | exact SetsAt.nil | apply SetsAt.here | apply SetsAt.there)) (by exact rfl) (by exact rfl) ?_
          clear H
          intro w H
          refine ⟨⟨H.rw_ (by repeat (first | exact Take.head | apply Take.tail)), H.rw_ (by repeat (first | exact Take.head | apply Take.tail))⟩, ?_⟩
          (try simp only [Act.put, List.setIfInBounds_toArray, List.set_cons_succ, List.set_cons_zero])
          refine wpAnyH_done (by kernel_rfl) ?_ _
          exact ⟨rfl, q0, q1, (by show _ = _; rw [Hq1.out, Hq0.out]), H.pick (.cons (by repeat (first | exact Take.head | apply Take.tail)) (.cons (by repeat (first | exact Take.head | apply Take.tail)) (.cons (by repeat (first | exact Take.head | apply Take.tail)) (.cons (by repeat (first | exact Take.head | apply Take.tail)) (.cons (by repeat (first | exact Take.head | apply Take.tail)) (.cons (by repeat (first | exact Take.head | apply Take.tail)) (.cons (by repeat (first | exact Take.head | apply Take.tail)) (.cons (by repeat (first | exact Take.head | apply Take.tail)) .nil)))))))), by first | (simp only [puts_cons, puts_nil, Act.put, List.setIfInBounds_toArray, List.set_cons_succ, List.set_cons_zero]; done) | (simp only [puts_cons, puts_nil, Act.put, List.setIfInBounds_toArray, List.set_cons_succ, List.set_cons_zero]; rfl)⟩
        clear H
        rintro u w ⟨q0, q1, HQ, H, rfl⟩
        simp only [puts_cons, puts_nil, Act.put, List.setIfInBounds_toArray, List.set_cons_succ, List.set_cons_zero]
        replace H := H.many_set (by rw [m_glen HD]; exact hk)
        go_wp2_with (first
          | go_skip
          | ((with_reducible refine at_box ?_); first | (refine wpList_box_H rfl rfl H rfl (by first | exact CellsOf.agg | exact CellsOf.int | exact CellsOf.bool | exact CellsOf.slice | exact CellsOf.string | exact CellsOf.pointer | exact CellsOf.func) ?_; clear H; intro b w H))
          | ((with_reducible refine at_alloc ?_); first | (refine wpList_alloc_H rfl rfl H ?_; clear H; intro b w H))
          | ((with_reducible refine at_load ?_); first | (refine wpList_load_H rfl rfl H rfl (by repeat (first | exact LoadAt.here rfl | apply LoadAt.there)) ?_) | (refine wpList_loads_H rfl rfl H rfl (by repeat (first | (apply LoadsAt.here; repeat (first | exact GetsAt.nil | apply GetsAt.here | apply GetsAt.there)) | apply LoadsAt.there)) ?_))
          | ((with_reducible refine at_store ?_); first | (refine wpList_store_H rfl rfl H rfl rfl (by repeat (first | (apply StoreAt.here; (first | exact CellsOf.agg | exact CellsOf.int | exact CellsOf.bool | exact CellsOf.slice | exact CellsOf.string | exact CellsOf.pointer | exact CellsOf.func); (repeat (first | exact SetsAt.nil | apply SetsAt.here | apply SetsAt.there)); exact rfl; exact rfl) | apply StoreAt.there)) ?_; clear H; intro w H)))
        refine bodyPost_ret (results_H2 rfl H rfl (by repeat (first | (apply LoadsAt.here; repeat (first | exact GetsAt.nil | apply GetsAt.here | apply GetsAt.there)) | apply LoadsAt.there))) rfl ⟨⟨d.mem, ⟨d.gs.A, d.gs.c, d.gs.xs.set k q1⟩, d.outs, d.pend⟩, by rw [HO.out]; simp [BV.val], ?_, H.bare5 (.cons (by repeat (first | exact Take.head | apply Take.tail)) (.cons (by repeat (first | exact Take.head | apply Take.tail)) (.cons (by repeat (first | exact Take.head | apply Take.tail)) (.cons (by repeat (first | exact Take.head | apply Take.tail)) (.cons (by repeat (first | exact Take.head | apply Take.tail)) .nil))))) rfl rfl⟩
        rw [ch_hit (by first | exact HO.out | (rw [HO.out]; rfl))]
        refine wg_put HD HK (F := (resumeG kd)) ?_
        rw [HQ.out]
        have hkd' := e4
        unfold resumeG; rw [if_pos (by simpa using hkd')]
        all_goals rfl
    · have e4 : (kd == 4) = false := by simp at e1' ⊢; omega
      have HO : Hid (chOkM B.m k cb = true) := by show _ = _; rw [ho, HCB.out]; rw [e1']; rfl
      clear ho
      have H := Hp.start W0
      go_enter Try.func75, Try.ntmps75
      go_wp2_with (first
        | go_skip
        | ((with_reducible refine at_box ?_); first | (refine wpList_box_H (cs := (barr B).toList) rfl rfl H rfl CellsOf.agg ?_; clear H; intro bB w H) | (refine wpList_box_H rfl rfl H rfl (by first | exact CellsOf.agg | exact CellsOf.int | exact CellsOf.bool | exact CellsOf.slice | exact CellsOf.string | exact CellsOf.pointer | exact CellsOf.func) ?_; clear H; intro b w H))
        | ((with_reducible refine at_alloc ?_); first | ((with_reducible refine at_dst 4 ?_); refine wpList_alloc_H rfl rfl H ?_; clear H; intro bR w H) | ((with_reducible refine at_dst 6 ?_); refine wpList_alloc_H rfl rfl H ?_; clear H; intro bX w H) | (refine wpList_alloc_H rfl rfl H ?_; clear H; intro b w H))
        | ((with_reducible refine at_load ?_); first | (refine wpList_loads_rd rfl rfl d.gs (H.rdgsl (by repeat (first | exact Take.head | apply Take.tail))) rfl y HK.out (by repeat (first | exact GetsAt.nil | apply GetsAt.here | apply GetsAt.there)) ?_) | (refine wpList_load_H rfl rfl H rfl (by repeat (first | exact LoadAt.here rfl | apply LoadAt.there)) ?_) | (refine wpList_loads_H rfl rfl H rfl (by repeat (first | (apply LoadsAt.here; repeat (first | exact GetsAt.nil | apply GetsAt.here | apply GetsAt.there)) | apply LoadsAt.there)) ?_))
        | ((with_reducible refine at_store ?_); first | (refine wpList_store_H rfl rfl H rfl rfl (by repeat (first | (apply StoreAt.here; (first | exact CellsOf.agg | exact CellsOf.int | exact CellsOf.bool | exact CellsOf.slice | exact CellsOf.string | exact CellsOf.pointer | exact CellsOf.func); (repeat (first | exact SetsAt.nil | apply SetsAt.here | apply SetsAt.there)); exact rfl; exact rfl) | apply StoreAt.there)) ?_; clear H; intro w H))
        | ((with_reducible refine at_index ?_); first | (refine wpList_index_n rfl rfl d.gs (H.rdgsl (by repeat (first | exact Take.head | apply Take.tail))) rfl rfl rfl (by rw [m_glen HD]; exact hk) ?_))
        | (go_at_call 124; refine (l17Copy_c B _ (R.at_ H) Z).mono ?_; rintro e w ⟨d, rfl, x1, K⟩; have HD := Lib.hid x1; clear x1; have Zd := m_big HD Z; replace H := (H.add_all K); clear K; obtain ⟨y, hy⟩ : ∃ y, d.gs.xs[k]? = some y := ⟨_, List.getElem?_eq_getElem (by rw [m_glen HD]; exact hk)⟩; have HK := Lib.hid hy; clear hy; have HY : Hid (y.exit.kind = kd) := (by show _ = _; have h := (gAtM_hit HK.out).1; rw [HD.out] at h; have h2 := HKD.out; rw [h] at h2; exact h2); have e1y : (y.exit.kind == 1) = true := (by rw [HY.out]; exact e1'); skip)
        | (go_at_call 136; refine (l19Is_c d k _ (H.brd (by repeat (first | exact Take.head | apply Take.tail))) Zd).mono ?_; rintro e w ⟨he, K⟩; rw [HD.out, e1] at he; subst he; replace H := H.add_all K; clear K; replace H := (H.take (e := .bare d) (by repeat (first | exact Take.head | apply Take.tail))).bparts))
      refine wp_cut (fun u a' w' => ∃ (q0 : GV), Hid (q0.m = stoppedM (y : GV).m noExit) ∧ Hp W0 w' [.gst q0, .many En.gst d.gs.xs, .gsl ⟨d.gs.A, d.gs.c, d.gs.xs.set k q0⟩, .rows d.mem, .many En.int d.mem.xs, .int d.outs, .box bB 33 (barr d).toList, .box bR 33 [.slice none 0 0, .slice none 0 0, .slice none 0 0, .int .i64 0]] ∧ a' = puts u [(25, .pointer (some ⟨bB, 1, none⟩)), (26, .slice d.gs.A d.gs.xs.length d.gs.c), (27, (.int .i64 k)), (28, (y : GV).val), (29, noExit.val), (30, q0.val), (31, (.pointer (some ⟨ablk d.gs.A, aoff d.gs.A + k * 15, none⟩)))]) ?_ ?_
      · refine wp_region_held (S := (fun w' => Rw w' bB 33 (barr d) ∧ Rw w' bX 50 (garr (y : GV)))) (by kernel_rfl) ?_
        replace H := H.drew
        refine takeH (i := 0) rfl .here (by kernel_rfl) (by kernel_rfl) (by kernel_rfl) (fun _ _ _ h => absurd h.1 (by simp)) (yields_val (v := .pointer (some ⟨bB, 1, none⟩)) rfl (fun _ => by go_simp)) ⟨H.rw_ (by repeat (first | exact Take.head | apply Take.tail)), H.rw_ (by repeat (first | exact Take.head | apply Take.tail))⟩ ?_
        (try simp only [Act.put, List.setIfInBounds_toArray, List.set_cons_succ, List.set_cons_zero])
        refine takeH (i := 1) rfl (.there .here) (by kernel_rfl) (by kernel_rfl) (by kernel_rfl) (fun _ _ _ h => absurd h.1 (by simp)) (yields_load1_R rfl rfl rfl (fun _ hS => hS.1) rfl) ⟨H.rw_ (by repeat (first | exact Take.head | apply Take.tail)), H.rw_ (by repeat (first | exact Take.head | apply Take.tail))⟩ ?_
        (try simp only [Act.put, List.setIfInBounds_toArray, List.set_cons_succ, List.set_cons_zero])
        refine takeH (i := 2) rfl (.there (.there .here)) (by kernel_rfl) (by kernel_rfl) (by kernel_rfl) (fun _ _ _ h => absurd h.1 (by simp)) (yields_val (v := (.int .i64 k)) rfl (fun _ => by go_simp)) ⟨H.rw_ (by repeat (first | exact Take.head | apply Take.tail)), H.rw_ (by repeat (first | exact Take.head | apply Take.tail))⟩ ?_
        (try simp only [Act.put, List.setIfInBounds_toArray, List.set_cons_succ, List.set_cons_zero])
        refine takeH (i := 3) rfl (.there (.there (.there .here))) (by kernel_rfl) (by kernel_rfl) (by kernel_rfl) (fun _ _ _ h => absurd h.1 (by simp)) (yields_loads_R rfl rfl rfl (fun _ hS => hS.2) (by repeat (first | exact GetsAt.nil | apply GetsAt.here | apply GetsAt.there))) ⟨H.rw_ (by repeat (first | exact Take.head | apply Take.tail)), H.rw_ (by repeat (first | exact Take.head | apply Take.tail))⟩ ?_
        (try simp only [Act.put, List.setIfInBounds_toArray, List.set_cons_succ, List.set_cons_zero])
        refine takeH (i := 4) rfl (.there (.there (.there (.there .here)))) (by kernel_rfl) (by kernel_rfl) (by kernel_rfl) (fun _ _ _ h => absurd h.1 (by simp)) (yields_val (v := noExit.val) rfl (fun _ => by go_simp)) ⟨H.rw_ (by repeat (first | exact Take.head | apply Take.tail)), H.rw_ (by repeat (first | exact Take.head | apply Take.tail))⟩ ?_
        (try simp only [Act.put, List.setIfInBounds_toArray, List.set_cons_succ, List.set_cons_zero])
        refine anyH_1 (i := 5) (by kernel_rfl) ?_
        refine wpOp_at rfl (.there (.there (.there (.there (.there .here))))) rfl ?_
        refine wp_call_H Try.f153 rfl rfl Try.func153 (by kernel_rfl) rfl rfl (made_H H ((specStopped_c (y : GV) noExit _ rfl _ (gz_rd (H.grdmany (by repeat (first | exact Take.head | apply Take.tail)) y (List.mem_of_getElem? HK.out)) rfl rfl rfl rfl) (Zd.gsi y (List.mem_of_getElem? HK.out))).mono fun _ _ h => mkg h)) ?_
        clear H
        rintro _ w ⟨q0, rfl, Hq0, H⟩
        have zq0 : GBig q0 := gbig_mm (m := stoppedM (y : GV).m noExit) (show MBig y.m from (Zd.gsi y (List.mem_of_getElem? HK.out)).m) (by show _ = _; rw [Hq0.out])
        refine ⟨⟨H.rw_ (by repeat (first | exact Take.head | apply Take.tail)), H.rw_ (by repeat (first | exact Take.head | apply Take.tail))⟩, ?_⟩
        (try simp only [Act.put, List.setIfInBounds_toArray, List.set_cons_succ, List.set_cons_zero])
        refine anyH_1 (i := 6) (by kernel_rfl) ?_
        refine wpOp_at rfl (.there (.there (.there (.there (.there (.there .here)))))) rfl ?_
        refine wp_index_n rfl d.gs (H.rdgsl (by repeat (first | exact Take.head | apply Take.tail))) rfl rfl rfl (by rw [m_glen HD]; exact hk) ?_
        refine ⟨⟨H.rw_ (by repeat (first | exact Take.head | apply Take.tail)), H.rw_ (by repeat (first | exact Take.head | apply Take.tail))⟩, ?_⟩
        (try simp only [Act.put, List.setIfInBounds_toArray, List.set_cons_succ, List.set_cons_zero])
        refine anyH_1 (i := 7) (by kernel_rfl) ?_
        refine wpOp_at rfl (.there (.there (.there (.there (.there (.there (.there .here))))))) rfl ?_
        refine wp_store_el rfl H d.gs (by repeat (first | exact Take.head | apply Take.tail)) g_len rfl rfl y q0 HK.out (Nat.add_zero _).symm (by first | exact CellsOf.agg | exact CellsOf.int | exact CellsOf.bool | exact CellsOf.slice | exact CellsOf.string | exact CellsOf.pointer | exact CellsOf.func) (by repeat (first | exact SetsAt.nil | apply SetsAt.here | apply SetsAt.there)) (by exact rfl) (by exact rfl) ?_
        clear H
        intro w H
        refine ⟨⟨H.rw_ (by repeat (first | exact Take.head | apply Take.tail)), H.rw_ (by repeat (first | exact Take.head | apply Take.tail))⟩, ?_⟩
        (try simp only [Act.put, List.setIfInBounds_toArray, List.set_cons_succ, List.set_cons_zero])
        refine wpAnyH_done (by kernel_rfl) ?_ _
        exact ⟨rfl, q0, (by show _ = _; rw [Hq0.out]), H.pick (.cons (by repeat (first | exact Take.head | apply Take.tail)) (.cons (by repeat (first | exact Take.head | apply Take.tail)) (.cons (by repeat (first | exact Take.head | apply Take.tail)) (.cons (by repeat (first | exact Take.head | apply Take.tail)) (.cons (by repeat (first | exact Take.head | apply Take.tail)) (.cons (by repeat (first | exact Take.head | apply Take.tail)) (.cons (by repeat (first | exact Take.head | apply Take.tail)) (.cons (by repeat (first | exact Take.head | apply Take.tail)) .nil)))))))), by first | (simp only [puts_cons, puts_nil, Act.put, List.setIfInBounds_toArray, List.set_cons_succ, List.set_cons_zero]; done) | (simp only [puts_cons, puts_nil, Act.put, List.setIfInBounds_toArray, List.set_cons_succ, List.set_cons_zero]; rfl)⟩
      clear H
      rintro u w ⟨q0, HQ, H, rfl⟩
      simp only [puts_cons, puts_nil, Act.put, List.setIfInBounds_toArray, List.set_cons_succ, List.set_cons_zero]
      replace H := H.many_set (by rw [m_glen HD]; exact hk)
      go_wp2_with (first
        | go_skip
        | ((with_reducible refine at_box ?_); first | (refine wpList_box_H rfl rfl H rfl (by first | exact CellsOf.agg | exact CellsOf.int | exact CellsOf.bool | exact CellsOf.slice | exact CellsOf.string | exact CellsOf.pointer | exact CellsOf.func) ?_; clear H; intro b w H))
        | ((with_reducible refine at_alloc ?_); first | (refine wpList_alloc_H rfl rfl H ?_; clear H; intro b w H))
        | ((with_reducible refine at_load ?_); first | (refine wpList_load_H rfl rfl H rfl (by repeat (first | exact LoadAt.here rfl | apply LoadAt.there)) ?_) | (refine wpList_loads_H rfl rfl H rfl (by repeat (first | (apply LoadsAt.here; repeat (first | exact GetsAt.nil | apply GetsAt.here | apply GetsAt.there)) | apply LoadsAt.there)) ?_))
        | ((with_reducible refine at_store ?_); first | (refine wpList_store_H rfl rfl H rfl rfl (by repeat (first | (apply StoreAt.here; (first | exact CellsOf.agg | exact CellsOf.int | exact CellsOf.bool | exact CellsOf.slice | exact CellsOf.string | exact CellsOf.pointer | exact CellsOf.func); (repeat (first | exact SetsAt.nil | apply SetsAt.here | apply SetsAt.there)); exact rfl; exact rfl) | apply StoreAt.there)) ?_; clear H; intro w H)))
      refine bodyPost_ret (results_H2 rfl H rfl (by repeat (first | (apply LoadsAt.here; repeat (first | exact GetsAt.nil | apply GetsAt.here | apply GetsAt.there)) | apply LoadsAt.there))) rfl ⟨⟨d.mem, ⟨d.gs.A, d.gs.c, d.gs.xs.set k q0⟩, d.outs, d.pend⟩, by rw [HO.out]; simp [BV.val], ?_, H.bare5 (.cons (by repeat (first | exact Take.head | apply Take.tail)) (.cons (by repeat (first | exact Take.head | apply Take.tail)) (.cons (by repeat (first | exact Take.head | apply Take.tail)) (.cons (by repeat (first | exact Take.head | apply Take.tail)) (.cons (by repeat (first | exact Take.head | apply Take.tail)) .nil))))) rfl rfl⟩
      rw [ch_hit (by first | exact HO.out | (rw [HO.out]; rfl))]
      refine wg_put HD HK (F := (resumeG kd)) ?_
      rw [HQ.out]
      have hkd' := e4
      unfold resumeG; rw [if_neg (by simpa using hkd')]
      all_goals rfl
end Go.Proofs.Ytgeoilpmmdfemaa
