/- Walk of the law FnProgram. No condition but that the argument lies in memory. -/
import Derived.Test.YtjiiobliadeldaaUa
import Derived.Test.YtjiiobliadeldaaQq
namespace Go.Proofs.Ytjiiobliadeldaa
open Go.RowKit
attribute [local go_sem ↓] Go.wp_at_zero Go.wp_at_succ
set_option linter.unusedSimpArgs false in
set_option linter.unusedVariables false in
set_option maxRecDepth 100000 in
set_option maxHeartbeats 8000000 in
theorem walk_fnProgram (s : Sl Int) (W0 : World) (ra : Rd u8cell 1 W0 s ∧ s.xs.length ≤ maxLen) : Calls Try.prog 6 #[.slice s.A s.xs.length s.c] W0 fun e w' => e = .returned (.bool true) ∧ Below W0.heap.size W0 w' := by
  obtain ⟨R, _⟩ := ra
  have H := Hp.start W0
  by_cases hbig : 1048576 < s.xs.length
  · have hb : decide (1048576 < s.xs.length) = true := decide_eq_true hbig
    have HB := Lib.hid hb; clear hb
    go_enter Try.func6, Try.ntmps6
    go_wp2_with (first
      | go_skip
      | ((with_reducible refine at_box ?_); first | (refine wpList_box_H rfl rfl H rfl (by first | exact CellsOf.agg | exact CellsOf.int | exact CellsOf.bool | exact CellsOf.slice | exact CellsOf.string | exact CellsOf.pointer | exact CellsOf.func) ?_; clear H; intro bQ w H))
      | ((with_reducible refine at_alloc ?_); first | (refine wpList_alloc_H rfl rfl H ?_; clear H; intro b w H))
      | ((with_reducible refine at_load ?_); first | (refine wpList_load_H rfl rfl H rfl (by repeat (first | exact LoadAt.here rfl | apply LoadAt.there)) ?_) | (refine wpList_loads_H rfl rfl H rfl (by repeat (first | (apply LoadsAt.here; repeat (first | exact GetsAt.nil | apply GetsAt.here | apply GetsAt.there)) | apply LoadsAt.there)) ?_))
      | ((with_reducible refine at_store ?_); first | (refine wpList_store_H rfl rfl H rfl rfl (by repeat (first | (apply StoreAt.here; (first | exact CellsOf.agg | exact CellsOf.int | exact CellsOf.bool | exact CellsOf.slice | exact CellsOf.string | exact CellsOf.pointer | exact CellsOf.func); (repeat (first | exact SetsAt.nil | apply SetsAt.here | apply SetsAt.there)); exact rfl; exact rfl) | apply StoreAt.there)) ?_; clear H; intro w H)))
    go_at_call 10
    refine (big_c s _).mono ?_
    rintro e w ⟨he, K⟩
    rw [HB.out] at he
    subst he
    replace H := H.add_all K
    clear K
    go_wp2_with (first
      | go_skip
      | ((with_reducible refine at_box ?_); first | (refine wpList_box_H rfl rfl H rfl (by first | exact CellsOf.agg | exact CellsOf.int | exact CellsOf.bool | exact CellsOf.slice | exact CellsOf.string | exact CellsOf.pointer | exact CellsOf.func) ?_; clear H; intro bQ w H))
      | ((with_reducible refine at_alloc ?_); first | (refine wpList_alloc_H rfl rfl H ?_; clear H; intro b w H))
      | ((with_reducible refine at_load ?_); first | (refine wpList_load_H rfl rfl H rfl (by repeat (first | exact LoadAt.here rfl | apply LoadAt.there)) ?_) | (refine wpList_loads_H rfl rfl H rfl (by repeat (first | (apply LoadsAt.here; repeat (first | exact GetsAt.nil | apply GetsAt.here | apply GetsAt.there)) | apply LoadsAt.there)) ?_))
      | ((with_reducible refine at_store ?_); first | (refine wpList_store_H rfl rfl H rfl rfl (by repeat (first | (apply StoreAt.here; (first | exact CellsOf.agg | exact CellsOf.int | exact CellsOf.bool | exact CellsOf.slice | exact CellsOf.string | exact CellsOf.pointer | exact CellsOf.func); (repeat (first | exact SetsAt.nil | apply SetsAt.here | apply SetsAt.there)); exact rfl; exact rfl) | apply StoreAt.there)) ?_; clear H; intro w H)))
    go_ret
    exact ⟨rfl, H.below⟩
  have hb : decide (1048576 < s.xs.length) = false := decide_eq_false hbig
  have HB := Lib.hid hb; clear hb
  have Z : s.xs.length ≤ 1048576 := by omega
  clear hbig
  go_enter Try.func6, Try.ntmps6
  go_wp2_with (first
    | go_skip
    | ((with_reducible refine at_box ?_); first | (refine wpList_box_H rfl rfl H rfl (by first | exact CellsOf.agg | exact CellsOf.int | exact CellsOf.bool | exact CellsOf.slice | exact CellsOf.string | exact CellsOf.pointer | exact CellsOf.func) ?_; clear H; intro bQ w H))
    | ((with_reducible refine at_alloc ?_); first | (refine wpList_alloc_H rfl rfl H ?_; clear H; intro b w H))
    | ((with_reducible refine at_load ?_); first | (refine wpList_load_H rfl rfl H rfl (by repeat (first | exact LoadAt.here rfl | apply LoadAt.there)) ?_) | (refine wpList_loads_H rfl rfl H rfl (by repeat (first | (apply LoadsAt.here; repeat (first | exact GetsAt.nil | apply GetsAt.here | apply GetsAt.there)) | apply LoadsAt.there)) ?_))
    | ((with_reducible refine at_store ?_); first | (refine wpList_store_H rfl rfl H rfl rfl (by repeat (first | (apply StoreAt.here; (first | exact CellsOf.agg | exact CellsOf.int | exact CellsOf.bool | exact CellsOf.slice | exact CellsOf.string | exact CellsOf.pointer | exact CellsOf.func); (repeat (first | exact SetsAt.nil | apply SetsAt.here | apply SetsAt.there)); exact rfl; exact rfl) | apply StoreAt.there)) ?_; clear H; intro w H)))
  go_at_call 10
  refine (big_c s _).mono ?_
  rintro e w ⟨he, K⟩
  rw [HB.out] at he
  subst he
  replace H := H.add_all K
  clear K
  go_wp2_with (first
    | go_skip
    | ((with_reducible refine at_box ?_); first | (refine wpList_box_H rfl rfl H rfl (by first | exact CellsOf.agg | exact CellsOf.int | exact CellsOf.bool | exact CellsOf.slice | exact CellsOf.string | exact CellsOf.pointer | exact CellsOf.func) ?_; clear H; intro bQ w H))
    | ((with_reducible refine at_alloc ?_); first | (refine wpList_alloc_H rfl rfl H ?_; clear H; intro b w H))
    | ((with_reducible refine at_load ?_); first | (refine wpList_load_H rfl rfl H rfl (by repeat (first | exact LoadAt.here rfl | apply LoadAt.there)) ?_) | (refine wpList_loads_H rfl rfl H rfl (by repeat (first | (apply LoadsAt.here; repeat (first | exact GetsAt.nil | apply GetsAt.here | apply GetsAt.there)) | apply LoadsAt.there)) ?_))
    | ((with_reducible refine at_store ?_); first | (refine wpList_store_H rfl rfl H rfl rfl (by repeat (first | (apply StoreAt.here; (first | exact CellsOf.agg | exact CellsOf.int | exact CellsOf.bool | exact CellsOf.slice | exact CellsOf.string | exact CellsOf.pointer | exact CellsOf.func); (repeat (first | exact SetsAt.nil | apply SetsAt.here | apply SetsAt.there)); exact rfl; exact rfl) | apply StoreAt.there)) ?_; clear H; intro w H)))
  go_at_call 11
  refine (drawPlaces_c s _ (R.at_ H) Z).mono ?_
  rintro e w ⟨p, rfl, hpl, hpb, K⟩
  replace H := H.add_all K
  clear K
  obtain ⟨p0, hp0e⟩ : ∃ p0, p.xs[0]? = some p0 := ⟨_, List.getElem?_eq_getElem (by omega)⟩
  have HP0 := Lib.hid hp0e
  have hpp0 := hpb p0 (List.mem_of_getElem? hp0e)
  have hp0 : 0 < p.xs.length := by omega
  obtain ⟨p1, hp1e⟩ : ∃ p1, p.xs[1]? = some p1 := ⟨_, List.getElem?_eq_getElem (by omega)⟩
  have HP1 := Lib.hid hp1e
  have hpp1 := hpb p1 (List.mem_of_getElem? hp1e)
  have hp1 : 1 < p.xs.length := by omega
  clear hp0e
  clear hp1e
  clear hpl hpb
  obtain ⟨a, ha⟩ : ∃ a, a = p0.tmod 16 := ⟨_, rfl⟩
  have a0 : 0 ≤ a := by rw [ha]; exact Int.tmod_nonneg _ hpp0.1
  have a1 : a < 16 := by rw [ha]; exact Int.tmod_lt_of_pos _ (by decide)
  have Ea : Hid (p0.tmod 16 = a) := ha.symm
  have Fa : Hid (p0 % 16 = a) := Lib.hid (by rw [ha, Int.tmod_eq_emod_of_nonneg hpp0.1])
  clear ha
  obtain ⟨v, hv⟩ : ∃ v, v = p1.tmod 100 := ⟨_, rfl⟩
  have v0 : 0 ≤ v := by rw [hv]; exact Int.tmod_nonneg _ hpp1.1
  have v1 : v < 100 := by rw [hv]; exact Int.tmod_lt_of_pos _ (by decide)
  have Ev : Hid (p1.tmod 100 = v) := hv.symm
  have Fv : Hid (p1 % 100 = v) := Lib.hid (by rw [hv, Int.tmod_eq_emod_of_nonneg hpp1.1])
  clear hv
  have L := fin2 pgL_all a0 a1 v0 v1
  unfold pgL at L
  simp only [Bool.and_eq_true, decide_eq_true_eq] at L
  obtain ⟨⟨⟨⟨⟨⟨⟨⟨⟨⟨⟨s0, s1⟩, s2⟩, s3⟩, s4⟩, s5⟩, s6⟩, lt⟩, lv⟩, lo⟩, lc⟩, lh⟩ := L
  replace s0 := smB_le s0
  replace s5 := smB_le s5
  replace s6 := smB_le s6
  obtain ⟨q, hq⟩ : ∃ q, q = a / 4 := ⟨_, rfl⟩
  have EQ : a.tdiv 4 = q := by rw [hq, Int.tdiv_eq_ediv_of_nonneg a0]
  have WQ : Hid (wrap64 (a.tdiv 4) = q) := Lib.hid (by rw [EQ]; exact wrap64q _ (by omega) (by omega))
  have W7 : Hid (wrap64 (7 - q) = 7 - q) := Lib.hid (wrap64q _ (by omega) (by omega))
  have WM : Hid (a.tmod 4 = a % 4) := Lib.hid (Int.tmod_eq_emod_of_nonneg a0)
  rw [← hq] at lc
  have LT := Lib.hid lt
  clear lt
  have LV := Lib.hid lv
  clear lv
  have LO := Lib.hid lo
  clear lo
  have LC := Lib.hid lc
  clear lc
  have LH := Lib.hid lh
  clear lh
  have S0 := Lib.hid s0
  clear s0
  have S5 := Lib.hid s5
  clear s5
  have S6 := Lib.hid s6
  clear s6
  clear hpp0 hpp1 s1 s2 s3 s4 EQ hq
  go_wp2_with (first
    | go_skip
    | ((with_reducible refine at_box ?_); first | (refine wpList_box_H rfl rfl H rfl (by first | exact CellsOf.agg | exact CellsOf.int | exact CellsOf.bool | exact CellsOf.slice | exact CellsOf.string | exact CellsOf.pointer | exact CellsOf.func) ?_; clear H; intro bQ w H))
    | ((with_reducible refine at_alloc ?_); first | (refine wpList_alloc_H rfl rfl H ?_; clear H; intro bB w H))
    | ((with_reducible refine at_load ?_); first | (refine wpList_load_rd rfl rfl p (H.rd (s := p) (by repeat (first | exact Take.head | apply Take.tail)) int_len) rfl p0 HP0.out rfl ?_) | (refine wpList_load_rd rfl rfl p (H.rd (s := p) (by repeat (first | exact Take.head | apply Take.tail)) int_len) rfl p1 HP1.out rfl ?_) | (refine wpList_load_H rfl rfl H rfl (by repeat (first | exact LoadAt.here rfl | apply LoadAt.there)) ?_) | (refine wpList_loads_H rfl rfl H rfl (by repeat (first | (apply LoadsAt.here; repeat (first | exact GetsAt.nil | apply GetsAt.here | apply GetsAt.there)) | apply LoadsAt.there)) ?_))
    | ((with_reducible refine at_store ?_); first | (refine wpList_store_H rfl rfl H rfl rfl (by repeat (first | (apply StoreAt.here; (first | exact CellsOf.agg | exact CellsOf.int | exact CellsOf.bool | exact CellsOf.slice | exact CellsOf.string | exact CellsOf.pointer | exact CellsOf.func); (repeat (first | exact SetsAt.nil | apply SetsAt.here | apply SetsAt.there)); exact rfl; exact rfl) | apply StoreAt.there)) ?_; clear H; intro w H))
    | ((with_reducible refine at_index ?_); first | (refine wpList_index_n rfl rfl (k := 0) p (H.rd (s := p) (by repeat (first | exact Take.head | apply Take.tail)) int_len) rfl rfl rfl hp0 ?_) | (refine wpList_index_n rfl rfl (k := 1) p (H.rd (s := p) (by repeat (first | exact Take.head | apply Take.tail)) int_len) rfl rfl rfl hp1 ?_))
    | ((with_reducible refine at_slice ?_); first | ((with_reducible refine at_dst 31 ?_); refine wpList_lit_H rfl rfl H ([⟨1, p1.tmod 100⟩, ⟨4, p0.tmod 16⟩, ⟨1, 0⟩, ⟨3, p0.tmod 16⟩, ⟨5, 5⟩, ⟨7, 0⟩] : List Ins) (by kernel_rfl) rfl (by decide) (by decide) ?_; clear H; intro bi w H) | ((with_reducible refine at_dst 32 ?_); refine wpList_one_H rfl rfl H (⟨some ⟨bi, 0, none⟩, 6, [⟨1, p1.tmod 100⟩, ⟨4, p0.tmod 16⟩, ⟨1, 0⟩, ⟨3, p0.tmod 16⟩, ⟨5, 5⟩, ⟨7, 0⟩]⟩ : Sl Ins) rfl CellsOf.slice rfl (by decide) ?_; clear H; intro bo w H)))
  go_at_call 12
  refine (specBareNew_c (⟨some ⟨bo, 0, none⟩, 1, [(⟨some ⟨bi, 0, none⟩, 6, [⟨1, p1.tmod 100⟩, ⟨4, p0.tmod 16⟩, ⟨1, 0⟩, ⟨3, p0.tmod 16⟩, ⟨5, 5⟩, ⟨7, 0⟩]⟩ : Sl Ins)]⟩ : Sl (Sl Ins)) _ (H.rd (s := (⟨some ⟨bo, 0, none⟩, 1, [(⟨some ⟨bi, 0, none⟩, 6, [⟨1, p1.tmod 100⟩, ⟨4, p0.tmod 16⟩, ⟨1, 0⟩, ⟨3, p0.tmod 16⟩, ⟨5, 5⟩, ⟨7, 0⟩]⟩ : Sl Ins)]⟩ : Sl (Sl Ins))) (by repeat (first | exact Take.head | apply Take.tail)) h_len) (by intro x hx; rw [List.mem_singleton.1 hx]; exact H.rd (by repeat (first | exact Take.head | apply Take.tail)) ins_len) (by intro x hx; rw [List.mem_singleton.1 hx]; simp) (by simp) (by simp)).mono ?_
  rintro e w ⟨b0, rfl, x1, K⟩
  have Hb0 : Hid (b0.m = pg0 a v) := Lib.hid (by rw [x1, ← Ea.out, ← Ev.out]; rfl)
  clear x1
  replace H := H.add_all K
  clear K
  have Zb0 := bbig_mq S0.out Hb0
  rw [Ea.out, Ev.out]
  clear a0 a1 v0 v1
  go_wp2_with (first
    | go_skip
    | ((with_reducible refine at_box ?_); first | (refine wpList_box_H rfl rfl H rfl (by first | exact CellsOf.agg | exact CellsOf.int | exact CellsOf.bool | exact CellsOf.slice | exact CellsOf.string | exact CellsOf.pointer | exact CellsOf.func) ?_; clear H; intro bQ w H))
    | ((with_reducible refine at_alloc ?_); first | (refine wpList_alloc_H rfl rfl H ?_; clear H; intro bB w H))
    | ((with_reducible refine at_load ?_); first | (refine wpList_load_H rfl rfl H rfl (by repeat (first | exact LoadAt.here rfl | apply LoadAt.there)) ?_) | (refine wpList_loads_H rfl rfl H rfl (by repeat (first | (apply LoadsAt.here; repeat (first | exact GetsAt.nil | apply GetsAt.here | apply GetsAt.there)) | apply LoadsAt.there)) ?_))
    | ((with_reducible refine at_store ?_); first | (refine wpList_store_H rfl rfl H rfl rfl (by repeat (first | (apply StoreAt.here; (first | exact CellsOf.agg | exact CellsOf.int | exact CellsOf.bool | exact CellsOf.slice | exact CellsOf.string | exact CellsOf.pointer | exact CellsOf.func); (repeat (first | exact SetsAt.nil | apply SetsAt.here | apply SetsAt.there)); exact rfl; exact rfl) | apply StoreAt.there)) ?_; clear H; intro w H)))
  replace H : Hp W0 _ [.bare b0, .int p, .box bB 31 (barr b0).toList] := H.pick (.cons (by repeat (first | exact Take.head | apply Take.tail)) (.cons (by repeat (first | exact Take.head | apply Take.tail)) (.cons (by repeat (first | exact Take.head | apply Take.tail)) .nil)))
  clear Zb0
  obtain ⟨F, hF⟩ : ∃ F : Nat → MB, F = pg1 a v := ⟨_, rfl⟩
  have FL : Hid (∀ k, (F k).guests.length = 1) := Lib.hid (by intro k; rw [hF]; exact (pgW_len _ _ _).trans rfl)
  have FV : Hid (∀ k, (gAtM (F k) 0).live.length = 4) := Lib.hid (by intro k; rw [hF]; exact (pgW_live rfl _ _).trans rfl)
  have FS : Hid (∀ k, F (k + 1) = withGuestM (F k) 0 { gAtM (F k) 0 with live := (gAtM (F k) 0).live.set k (pgs k) }) := Lib.hid (by intro k; rw [hF]; rfl)
  have hb0 : b0.m = F 0 := by rw [Hb0.out, hF]; rfl
  have hF4 : pg1 a v 4 = F 4 := by rw [hF]
  clear Hb0
  have Hb0 := Lib.hid hb0
  clear hb0
  obtain ⟨G2, hG2⟩ : ∃ G : MB, G = pg2 a v := ⟨_, rfl⟩
  have F4 : Hid (stepsM (F 4) pgl = G2) := Lib.hid (by rw [hG2, hF]; rfl)
  replace S5 := S5.out
  rw [hF4] at S5
  replace S5 := Lib.hid S5
  replace LT := LT.out
  rw [hF4] at LT
  replace LT := Lib.hid LT
  replace S6 := S6.out
  rw [← hG2] at S6
  replace S6 := Lib.hid S6
  replace LV := LV.out
  rw [← hG2] at LV
  replace LV := Lib.hid LV
  replace LO := LO.out
  rw [← hG2] at LO
  replace LO := Lib.hid LO
  replace LC := LC.out
  rw [← hG2] at LC
  replace LC := Lib.hid LC
  replace LH := LH.out
  rw [← hG2] at LH
  replace LH := Lib.hid LH
  clear hF4 hF hG2
  go_loopw [7] (fun i wr => ∃ (k : Nat) (b : BV), k ≤ 4 ∧ i = .int .i64 k ∧ Hid (b.m = F k) ∧ Hp W0 wr [.bare b, .int p, .box bB 31 (barr b).toList]) (fun i _ => 4 - (intOf i).toNat)
  case atStart => exact ⟨0, b0, by omega, rfl, Hb0, H.pick (.cons (by repeat (first | exact Take.head | apply Take.tail)) (.cons (by repeat (first | exact Take.head | apply Take.tail)) (.cons (by repeat (first | exact Take.head | apply Take.tail)) .nil)))⟩
  case round =>
    clear H Hb0
    obtain ⟨k, b, hk0, rfl, Hb, H⟩ := hrel
    by_cases hk : k < 4
    · skip
      have hgl : b.gs.xs.length = 1 := by
        have h : b.m.guests.length = 1 := by rw [Hb.out]; exact FL.out k
        simpa [BV.m, gsOf] using h
      obtain ⟨y, hy⟩ : ∃ y, b.gs.xs[0]? = some y := ⟨_, List.getElem?_eq_getElem (by rw [hgl]; decide)⟩
      have HK := Lib.hid hy
      clear hy
      have hll : y.live.xs.length = 4 := by
        have h : (gAtM b.m 0).live.length = 4 := by rw [Hb.out]; exact FV.out k
        have h2 := (gAtM_hit HK.out).1
        rw [show ((0 : Nat) : Int) = 0 from rfl] at h2
        rw [h2] at h; exact h
      have hkl : k < y.live.xs.length := by rw [hll]; exact hk
      have HGL := Lib.hid hgl
      clear hgl hll
      obtain ⟨z, hz⟩ : ∃ z, y.live.xs[k]? = some z := ⟨_, List.getElem?_eq_getElem hkl⟩
      have HZ := Lib.hid hz
      clear hz
      have H7 : IntKind.i64.wrap (7 - (k : Int)) = 7 - k := wrapq _ (by omega) (by omega)
      replace H := (H.take (e := .bare b) (by repeat (first | exact Take.head | apply Take.tail))).bparts
      obtain ⟨l1, l2, hl, hl1, H⟩ := Hp.gst_open HK.out (H.take (e := .many En.gst b.gs.xs) (by repeat (first | exact Take.head | apply Take.tail)))
      have HL := Lib.hid hl; have HL1 := Lib.hid hl1; clear hl hl1
      go_wp2_with (first
        | go_skip
        | ((with_reducible refine at_box ?_); first | (refine wpList_box_H rfl rfl H rfl (by first | exact CellsOf.agg | exact CellsOf.int | exact CellsOf.bool | exact CellsOf.slice | exact CellsOf.string | exact CellsOf.pointer | exact CellsOf.func) ?_; clear H; intro bQ w H))
        | ((with_reducible refine at_alloc ?_); first | (refine wpList_alloc_H rfl rfl H ?_; clear H; intro b w H))
        | ((with_reducible refine at_load ?_); first | ((with_reducible refine at_dst 42 ?_); refine wpList_load_at rfl rfl b.gs (H.rdgsl (by repeat (first | exact Take.head | apply Take.tail))) rfl y HK.out (j := 4) (by first | exact rfl | exact (Nat.add_zero _).symm) rfl ?_) | (refine wpList_load_H rfl rfl H rfl (by repeat (first | exact LoadAt.here rfl | apply LoadAt.there)) ?_) | (refine wpList_loads_H rfl rfl H rfl (by repeat (first | (apply LoadsAt.here; repeat (first | exact GetsAt.nil | apply GetsAt.here | apply GetsAt.there)) | apply LoadsAt.there)) ?_))
        | ((with_reducible refine at_store ?_); first | (refine wpList_store_el rfl rfl H y.live (by repeat (first | exact Take.head | apply Take.tail)) slot_len rfl rfl z ⟨7 - (k : Int), 3⟩ HZ.out (by first | exact CellsOf.agg | exact CellsOf.int | exact CellsOf.bool | exact CellsOf.slice | exact CellsOf.string | exact CellsOf.pointer | exact CellsOf.func) (by repeat (first | exact SetsAt.nil | apply SetsAt.here | apply SetsAt.there)) (by exact rfl) (by exact rfl) (by exact rfl) ?_; clear H; intro w H) | (refine wpList_store_H rfl rfl H rfl rfl (by repeat (first | (apply StoreAt.here; (first | exact CellsOf.agg | exact CellsOf.int | exact CellsOf.bool | exact CellsOf.slice | exact CellsOf.string | exact CellsOf.pointer | exact CellsOf.func); (repeat (first | exact SetsAt.nil | apply SetsAt.here | apply SetsAt.there)); exact rfl; exact rfl) | apply StoreAt.there)) ?_; clear H; intro w H))
        | ((with_reducible refine at_index ?_); first | ((with_reducible refine at_dst 40 ?_); refine wpList_index_n rfl rfl (k := 0) b.gs (H.rdgsl (by repeat (first | exact Take.head | apply Take.tail))) rfl rfl rfl (by rw [HGL.out]; decide) ?_) | ((with_reducible refine at_dst 47 ?_); refine wpList_index_n rfl rfl (k := k) y.live (H.rd (enc := Slot.cells) (sz := 2) (e := 27) (s := y.live) (by repeat (first | exact Take.head | apply Take.tail)) slot_len) rfl rfl rfl hkl ?_)))
      replace H : Hp W0 _ [.ins y.prog, .slot y.written, .slot ⟨y.live.A, y.live.c, y.live.xs.set k ⟨7 - (k : Int), 3⟩⟩, .int y.seen, .many En.gst l1, .many En.gst l2, .gsl b.gs, .rows b.mem, .many En.int b.mem.xs, .int b.outs, .int p, .box bB 31 (barr b).toList] := H.pick (.cons (by repeat (first | exact Take.head | apply Take.tail)) (.cons (by repeat (first | exact Take.head | apply Take.tail)) (.cons (by repeat (first | exact Take.head | apply Take.tail)) (.cons (by repeat (first | exact Take.head | apply Take.tail)) (.cons (by repeat (first | exact Take.head | apply Take.tail)) (.cons (by repeat (first | exact Take.head | apply Take.tail)) (.cons (by repeat (first | exact Take.head | apply Take.tail)) (.cons (by repeat (first | exact Take.head | apply Take.tail)) (.cons (by repeat (first | exact Take.head | apply Take.tail)) (.cons (by repeat (first | exact Take.head | apply Take.tail)) (.cons (by repeat (first | exact Take.head | apply Take.tail)) (.cons (by repeat (first | exact Take.head | apply Take.tail)) .nil))))))))))))
      have hgl := HGL.out
      replace H := Hp.gst_close y.a y.pc y.ctl y.pending y.exit y.halted H
      rw [← set_app HL.out HL1.out] at H
      replace H := Hp.sl_same (s := b.gs) (t := (⟨b.gs.A, b.gs.c, b.gs.xs.set 0 ⟨y.prog, y.a, y.pc, y.written, ⟨y.live.A, y.live.c, y.live.xs.set k ⟨7 - (k : Int), 3⟩⟩, y.ctl, y.pending, y.exit, y.halted, y.seen⟩⟩ : Sl GV)) rfl rfl (by simp) (flat_same HK.out (by simp [GV.cells])) (H.take (e := .gsl b.gs) (by repeat (first | exact Take.head | apply Take.tail)))
      obtain ⟨b2, hb2⟩ : ∃ b2 : BV, b2 = ⟨b.mem, (⟨b.gs.A, b.gs.c, b.gs.xs.set 0 ⟨y.prog, y.a, y.pc, y.written, ⟨y.live.A, y.live.c, y.live.xs.set k ⟨7 - (k : Int), 3⟩⟩, y.ctl, y.pending, y.exit, y.halted, y.seen⟩⟩ : Sl GV), b.outs, b.pend⟩ := ⟨_, rfl⟩
      have eb : barr b = barr b2 := by rw [hb2]; simp [barr]
      have Hb2 : Hid (b2.m = F (k + 1)) := by
        have h := wg_hit HK.out (fun x => ({ x with live := x.live.set k (pgs k) } : MG))
        rw [Hb.out] at h
        refine Lib.hid (Eq.trans ?_ (h.symm.trans (FS.out k).symm))
        rw [hb2, ← Hb.out]
        simp only [BV.m, gsOf, List.map_set]
        rfl
      replace H : Hp W0 w [.bare b2, .int p, .box bB 31 (barr b).toList] := by
        rw [hb2]
        have H2 : Hp W0 w (.rows b.mem :: .many En.int b.mem.xs :: .gsl (⟨b.gs.A, b.gs.c, b.gs.xs.set 0 ⟨y.prog, y.a, y.pc, y.written, ⟨y.live.A, y.live.c, y.live.xs.set k ⟨7 - (k : Int), 3⟩⟩, y.ctl, y.pending, y.exit, y.halted, y.seen⟩⟩ : Sl GV) :: .many En.gst (⟨b.gs.A, b.gs.c, b.gs.xs.set 0 ⟨y.prog, y.a, y.pc, y.written, ⟨y.live.A, y.live.c, y.live.xs.set k ⟨7 - (k : Int), 3⟩⟩, y.ctl, y.pending, y.exit, y.halted, y.seen⟩⟩ : Sl GV).xs :: .int b.outs :: [.int p, .box bB 31 (barr b).toList]) := H.pick (.cons (by repeat (first | exact Take.head | apply Take.tail)) (.cons (by repeat (first | exact Take.head | apply Take.tail)) (.cons (by repeat (first | exact Take.head | apply Take.tail)) (.cons (by repeat (first | exact Take.head | apply Take.tail)) (.cons (by repeat (first | exact Take.head | apply Take.tail)) (.cons (by repeat (first | exact Take.head | apply Take.tail)) (.cons (by repeat (first | exact Take.head | apply Take.tail)) .nil)))))))
        exact H2.bare
      rw [eb] at H
      clear eb hb2 HK hgl
      go_wp2_with (first
        | go_skip
        | ((with_reducible refine at_box ?_); first | (refine wpList_box_H rfl rfl H rfl (by first | exact CellsOf.agg | exact CellsOf.int | exact CellsOf.bool | exact CellsOf.slice | exact CellsOf.string | exact CellsOf.pointer | exact CellsOf.func) ?_; clear H; intro bQ w H))
        | ((with_reducible refine at_alloc ?_); first | (refine wpList_alloc_H rfl rfl H ?_; clear H; intro b w H))
        | ((with_reducible refine at_load ?_); first | (refine wpList_load_H rfl rfl H rfl (by repeat (first | exact LoadAt.here rfl | apply LoadAt.there)) ?_) | (refine wpList_loads_H rfl rfl H rfl (by repeat (first | (apply LoadsAt.here; repeat (first | exact GetsAt.nil | apply GetsAt.here | apply GetsAt.there)) | apply LoadsAt.there)) ?_))
        | ((with_reducible refine at_store ?_); first | (refine wpList_store_H rfl rfl H rfl rfl (by repeat (first | (apply StoreAt.here; (first | exact CellsOf.agg | exact CellsOf.int | exact CellsOf.bool | exact CellsOf.slice | exact CellsOf.string | exact CellsOf.pointer | exact CellsOf.func); (repeat (first | exact SetsAt.nil | apply SetsAt.here | apply SetsAt.there)); exact rfl; exact rfl) | apply StoreAt.there)) ?_; clear H; intro w H)))
      go_roundw
      case rel => exact ⟨k + 1, b2, by omega, by go_num, Hb2, H.pick (.cons (by repeat (first | exact Take.head | apply Take.tail)) (.cons (by repeat (first | exact Take.head | apply Take.tail)) (.cons (by repeat (first | exact Take.head | apply Take.tail)) .nil)))⟩
      case measure => simp [intOf]; omega
    · have hke : k = 4 := by omega
      subst hke
      clear hk hk0
      have Zb := bbig_mq S5.out Hb
      go_wp2_with (first
        | go_skip
        | ((with_reducible refine at_box ?_); first | (refine wpList_box_H rfl rfl H rfl (by first | exact CellsOf.agg | exact CellsOf.int | exact CellsOf.bool | exact CellsOf.slice | exact CellsOf.string | exact CellsOf.pointer | exact CellsOf.func) ?_; clear H; intro bQ w H))
        | ((with_reducible refine at_alloc ?_); first | (refine wpList_alloc_H rfl rfl H ?_; clear H; intro bX w H))
        | ((with_reducible refine at_load ?_); first | (refine wpList_load_H rfl rfl H rfl (by repeat (first | exact LoadAt.here rfl | apply LoadAt.there)) ?_) | (refine wpList_loads_H rfl rfl H rfl (by repeat (first | (apply LoadsAt.here; repeat (first | exact GetsAt.nil | apply GetsAt.here | apply GetsAt.there)) | apply LoadsAt.there)) ?_))
        | ((with_reducible refine at_store ?_); first | (refine wpList_store_H rfl rfl H rfl rfl (by repeat (first | (apply StoreAt.here; (first | exact CellsOf.agg | exact CellsOf.int | exact CellsOf.bool | exact CellsOf.slice | exact CellsOf.string | exact CellsOf.pointer | exact CellsOf.func); (repeat (first | exact SetsAt.nil | apply SetsAt.here | apply SetsAt.there)); exact rfl; exact rfl) | apply StoreAt.there)) ?_; clear H; intro w H))
        | ((with_reducible refine at_slice ?_); first | ((with_reducible refine at_dst 50 ?_); refine wpList_lit_H (enc := icell) rfl rfl H ([0, 0, 0, 0, 0, 0, 0] : List Int) (by kernel_rfl) rfl (by decide) (by decide) ?_; clear H; intro bl w H)))
      go_at_call 22
      refine (bareSteps_c b (⟨some ⟨bl, 0, none⟩, 7, [0, 0, 0, 0, 0, 0, 0]⟩ : Sl Int) _ (H.brd (b := b) (by repeat (first | exact Take.head | apply Take.tail))) Zb (H.rd (s := (⟨some ⟨bl, 0, none⟩, 7, [0, 0, 0, 0, 0, 0, 0]⟩ : Sl Int)) (by repeat (first | exact Take.head | apply Take.tail)) int_len) (by simp)).mono ?_
      rintro e w ⟨x, t, rfl, x1, x2, K⟩
      have Hx : Hid (x.m = G2) := by show _ = _; rw [x1, Hb.out]; exact F4.out
      rw [Hb.out] at x2
      have Ht := Lib.hid x2
      clear x1 x2
      replace H := H.add_all K
      clear K
      have Zx := bbig_mq S6.out Hx
      obtain ⟨At, ct, xt⟩ := t
      have ht : xt = [true, true, true, true, true, true, false] := Ht.out.trans LT.out
      subst ht
      go_wp2_with (first
        | go_skip
        | ((with_reducible refine at_box ?_); first | (refine wpList_box_H rfl rfl H rfl (by first | exact CellsOf.agg | exact CellsOf.int | exact CellsOf.bool | exact CellsOf.slice | exact CellsOf.string | exact CellsOf.pointer | exact CellsOf.func) ?_; clear H; intro bQ w H))
        | ((with_reducible refine at_alloc ?_); first | (refine wpList_alloc_H rfl rfl H ?_; clear H; intro bX w H))
        | ((with_reducible refine at_load ?_); first | (refine wpList_load_rd rfl rfl (⟨At, ct, [true, true, true, true, true, true, false]⟩ : Sl Bool) (H.rd (s := (⟨At, ct, [true, true, true, true, true, true, false]⟩ : Sl Bool)) (by repeat (first | exact Take.head | apply Take.tail)) bool_len) rfl true (k := 5) rfl rfl ?_) | (refine wpList_load_rd rfl rfl (⟨At, ct, [true, true, true, true, true, true, false]⟩ : Sl Bool) (H.rd (s := (⟨At, ct, [true, true, true, true, true, true, false]⟩ : Sl Bool)) (by repeat (first | exact Take.head | apply Take.tail)) bool_len) rfl false (k := 6) rfl rfl ?_) | (refine wpList_load_H rfl rfl H rfl (by repeat (first | exact LoadAt.here rfl | apply LoadAt.there)) ?_) | (refine wpList_loads_H rfl rfl H rfl (by repeat (first | (apply LoadsAt.here; repeat (first | exact GetsAt.nil | apply GetsAt.here | apply GetsAt.there)) | apply LoadsAt.there)) ?_))
        | ((with_reducible refine at_store ?_); first | (refine wpList_store_H rfl rfl H rfl rfl (by repeat (first | (apply StoreAt.here; (first | exact CellsOf.agg | exact CellsOf.int | exact CellsOf.bool | exact CellsOf.slice | exact CellsOf.string | exact CellsOf.pointer | exact CellsOf.func); (repeat (first | exact SetsAt.nil | apply SetsAt.here | apply SetsAt.there)); exact rfl; exact rfl) | apply StoreAt.there)) ?_; clear H; intro w H))
        | ((with_reducible refine at_index ?_); first | (refine wpList_index_n rfl rfl (k := 5) (⟨At, ct, [true, true, true, true, true, true, false]⟩ : Sl Bool) (H.rd (s := (⟨At, ct, [true, true, true, true, true, true, false]⟩ : Sl Bool)) (by repeat (first | exact Take.head | apply Take.tail)) bool_len) rfl rfl rfl (by decide) ?_) | (refine wpList_index_n rfl rfl (k := 6) (⟨At, ct, [true, true, true, true, true, true, false]⟩ : Sl Bool) (H.rd (s := (⟨At, ct, [true, true, true, true, true, true, false]⟩ : Sl Bool)) (by repeat (first | exact Take.head | apply Take.tail)) bool_len) rfl rfl rfl (by decide) ?_)))
      go_at_call 25
      refine (seenOf_c x 0 _ (H.brd (b := x) (by repeat (first | exact Take.head | apply Take.tail))) Zx).mono ?_
      rintro e w ⟨⟨Au, cu, xu⟩, rfl, x1, K⟩
      rw [Hx.out, LV.out] at x1
      obtain rfl : xu = [v] := x1
      replace H := H.add_all K
      clear K
      go_wp2_with (first
        | go_skip
        | ((with_reducible refine at_box ?_); first | (refine wpList_box_H rfl rfl H rfl (by first | exact CellsOf.agg | exact CellsOf.int | exact CellsOf.bool | exact CellsOf.slice | exact CellsOf.string | exact CellsOf.pointer | exact CellsOf.func) ?_; clear H; intro bQ w H))
        | ((with_reducible refine at_alloc ?_); first | (refine wpList_alloc_H rfl rfl H ?_; clear H; intro b w H))
        | ((with_reducible refine at_load ?_); first | (refine wpList_load_H rfl rfl H rfl (by repeat (first | exact LoadAt.here rfl | apply LoadAt.there)) ?_) | (refine wpList_loads_H rfl rfl H rfl (by repeat (first | (apply LoadsAt.here; repeat (first | exact GetsAt.nil | apply GetsAt.here | apply GetsAt.there)) | apply LoadsAt.there)) ?_))
        | ((with_reducible refine at_store ?_); first | (refine wpList_store_H rfl rfl H rfl rfl (by repeat (first | (apply StoreAt.here; (first | exact CellsOf.agg | exact CellsOf.int | exact CellsOf.bool | exact CellsOf.slice | exact CellsOf.string | exact CellsOf.pointer | exact CellsOf.func); (repeat (first | exact SetsAt.nil | apply SetsAt.here | apply SetsAt.there)); exact rfl; exact rfl) | apply StoreAt.there)) ?_; clear H; intro w H))
        | ((with_reducible refine at_slice ?_); first | ((with_reducible refine at_dst 72 ?_); refine wpList_one_H (enc := icell) rfl rfl H _ rfl CellsOf.int rfl (by decide) ?_; clear H; intro bj w H)))
      go_at_call 24
      refine (sameInts_c ⟨Au, cu, [v]⟩ ⟨some ⟨bj, 0, none⟩, 1, [v]⟩ _ (H.rd (s := ⟨Au, cu, [v]⟩) (by repeat (first | exact Take.head | apply Take.tail)) int_len) (H.rd (s := ⟨some ⟨bj, 0, none⟩, 1, [v]⟩) (by repeat (first | exact Take.head | apply Take.tail)) int_len) (by simp)).mono ?_
      rintro e w ⟨he, K⟩
      rw [show ((⟨Au, cu, [v]⟩ : Sl Int).xs == (⟨some ⟨bj, 0, none⟩, 1, [v]⟩ : Sl Int).xs) = true from by simp] at he
      subst he
      replace H := H.add_all K
      clear K
      go_wp2_with (first
        | go_skip
        | ((with_reducible refine at_box ?_); first | (refine wpList_box_H rfl rfl H rfl (by first | exact CellsOf.agg | exact CellsOf.int | exact CellsOf.bool | exact CellsOf.slice | exact CellsOf.string | exact CellsOf.pointer | exact CellsOf.func) ?_; clear H; intro bQ w H))
        | ((with_reducible refine at_alloc ?_); first | (refine wpList_alloc_H rfl rfl H ?_; clear H; intro b w H))
        | ((with_reducible refine at_load ?_); first | (refine wpList_load_H rfl rfl H rfl (by repeat (first | exact LoadAt.here rfl | apply LoadAt.there)) ?_) | (refine wpList_loads_H rfl rfl H rfl (by repeat (first | (apply LoadsAt.here; repeat (first | exact GetsAt.nil | apply GetsAt.here | apply GetsAt.there)) | apply LoadsAt.there)) ?_))
        | ((with_reducible refine at_store ?_); first | (refine wpList_store_H rfl rfl H rfl rfl (by repeat (first | (apply StoreAt.here; (first | exact CellsOf.agg | exact CellsOf.int | exact CellsOf.bool | exact CellsOf.slice | exact CellsOf.string | exact CellsOf.pointer | exact CellsOf.func); (repeat (first | exact SetsAt.nil | apply SetsAt.here | apply SetsAt.there)); exact rfl; exact rfl) | apply StoreAt.there)) ?_; clear H; intro w H))
        | ((with_reducible refine at_slice ?_); first | ((with_reducible refine at_dst 78 ?_); refine wpList_one_H (enc := icell) rfl rfl H _ rfl CellsOf.int rfl (by decide) ?_; clear H; intro bj2 w H)))
      go_at_call 24
      refine (sameInts_c x.outs ⟨some ⟨bj2, 0, none⟩, 1, [5]⟩ _ (H.brd (b := x) (by repeat (first | exact Take.head | apply Take.tail))).outs (H.rd (s := ⟨some ⟨bj2, 0, none⟩, 1, [5]⟩) (by repeat (first | exact Take.head | apply Take.tail)) int_len) Zx.outs).mono ?_
      rintro e w ⟨he, K⟩
      rw [show (x.outs.xs == ((⟨some ⟨bj2, 0, none⟩, 1, [5]⟩ : Sl Int)).xs) = true from by rw [show x.outs.xs = [5] from (congrArg MB.outs Hx.out).trans LO.out]; rfl] at he
      subst he
      replace H := H.add_all K
      clear K
      go_wp2_with (first
        | go_skip
        | ((with_reducible refine at_box ?_); first | (refine wpList_box_H rfl rfl H rfl (by first | exact CellsOf.agg | exact CellsOf.int | exact CellsOf.bool | exact CellsOf.slice | exact CellsOf.string | exact CellsOf.pointer | exact CellsOf.func) ?_; clear H; intro bQ w H))
        | ((with_reducible refine at_alloc ?_); first | (refine wpList_alloc_H rfl rfl H ?_; clear H; intro b w H))
        | ((with_reducible refine at_load ?_); first | (refine wpList_load_H rfl rfl H rfl (by repeat (first | exact LoadAt.here rfl | apply LoadAt.there)) ?_) | (refine wpList_loads_H rfl rfl H rfl (by repeat (first | (apply LoadsAt.here; repeat (first | exact GetsAt.nil | apply GetsAt.here | apply GetsAt.there)) | apply LoadsAt.there)) ?_))
        | ((with_reducible refine at_store ?_); first | (refine wpList_store_H rfl rfl H rfl rfl (by repeat (first | (apply StoreAt.here; (first | exact CellsOf.agg | exact CellsOf.int | exact CellsOf.bool | exact CellsOf.slice | exact CellsOf.string | exact CellsOf.pointer | exact CellsOf.func); (repeat (first | exact SetsAt.nil | apply SetsAt.here | apply SetsAt.there)); exact rfl; exact rfl) | apply StoreAt.there)) ?_; clear H; intro w H)))
      rw [WQ.out, W7.out, WM.out]
      go_at_call 26
      refine (specCellAt_c x.mem (7 - q) (a % 4) _ (H.brd (b := x) (by repeat (first | exact Take.head | apply Take.tail))).mem (H.brd (b := x) (by repeat (first | exact Take.head | apply Take.tail))).memi Zx.mem Zx.memi).mono ?_
      rintro e w ⟨he, K⟩
      rw [show cellAtM (memOf x.mem) (7 - q) (a % 4) = v from by rw [show memOf x.mem = G2.memory from congrArg MB.memory Hx.out]; exact LC.out] at he
      subst he
      replace H := H.add_all K
      clear K
      go_wp2_with (first
        | go_skip
        | ((with_reducible refine at_box ?_); first | (refine wpList_box_H rfl rfl H rfl (by first | exact CellsOf.agg | exact CellsOf.int | exact CellsOf.bool | exact CellsOf.slice | exact CellsOf.string | exact CellsOf.pointer | exact CellsOf.func) ?_; clear H; intro bQ w H))
        | ((with_reducible refine at_alloc ?_); first | (refine wpList_alloc_H rfl rfl H ?_; clear H; intro b w H))
        | ((with_reducible refine at_load ?_); first | (refine wpList_load_H rfl rfl H rfl (by repeat (first | exact LoadAt.here rfl | apply LoadAt.there)) ?_) | (refine wpList_loads_H rfl rfl H rfl (by repeat (first | (apply LoadsAt.here; repeat (first | exact GetsAt.nil | apply GetsAt.here | apply GetsAt.there)) | apply LoadsAt.there)) ?_))
        | ((with_reducible refine at_store ?_); first | (refine wpList_store_H rfl rfl H rfl rfl (by repeat (first | (apply StoreAt.here; (first | exact CellsOf.agg | exact CellsOf.int | exact CellsOf.bool | exact CellsOf.slice | exact CellsOf.string | exact CellsOf.pointer | exact CellsOf.func); (repeat (first | exact SetsAt.nil | apply SetsAt.here | apply SetsAt.there)); exact rfl; exact rfl) | apply StoreAt.there)) ?_; clear H; intro w H)))
      go_at_call 17
      refine (guestOf_c x 0 _ (H.brd (b := x) (by repeat (first | exact Take.head | apply Take.tail))) Zx).mono ?_
      rintro e w ⟨g0, rfl, x1, K⟩
      rw [Hx.out] at x1
      have Hg0 := Lib.hid x1
      clear x1
      replace H := H.add_all K
      clear K
      have hpc : g0.halted = true := by have h := congrArg MG.halted Hg0.out; exact h.trans LH.out
      go_wp2_with (first
        | go_skip
        | ((with_reducible refine at_box ?_); first | (refine wpList_box_H rfl rfl H rfl (by first | exact CellsOf.agg | exact CellsOf.int | exact CellsOf.bool | exact CellsOf.slice | exact CellsOf.string | exact CellsOf.pointer | exact CellsOf.func) ?_; clear H; intro bQ w H))
        | ((with_reducible refine at_alloc ?_); first | (refine wpList_alloc_H rfl rfl H ?_; clear H; intro b w H))
        | ((with_reducible refine at_load ?_); first | (refine wpList_load_H rfl rfl H rfl (by repeat (first | exact LoadAt.here rfl | apply LoadAt.there)) ?_) | (refine wpList_loads_H rfl rfl H rfl (by repeat (first | (apply LoadsAt.here; repeat (first | exact GetsAt.nil | apply GetsAt.here | apply GetsAt.there)) | apply LoadsAt.there)) ?_))
        | ((with_reducible refine at_store ?_); first | (refine wpList_store_H rfl rfl H rfl rfl (by repeat (first | (apply StoreAt.here; (first | exact CellsOf.agg | exact CellsOf.int | exact CellsOf.bool | exact CellsOf.slice | exact CellsOf.string | exact CellsOf.pointer | exact CellsOf.func); (repeat (first | exact SetsAt.nil | apply SetsAt.here | apply SetsAt.there)); exact rfl; exact rfl) | apply StoreAt.there)) ?_; clear H; intro w H)))
      go_ret
      exact ⟨rfl, H.below⟩
end Go.Proofs.Ytjiiobliadeldaa
