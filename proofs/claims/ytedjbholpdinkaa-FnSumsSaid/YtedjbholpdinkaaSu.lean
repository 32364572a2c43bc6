/- Walk of the law FnSums. No condition but that the argument lies in memory. -/
import Derived.Test.YtedjbholpdinkaaSc
import Derived.Test.YtedjbholpdinkaaMl
namespace Go.Proofs.Ytedjbholpdinkaa
open Go.RowKit
attribute [local go_sem ↓] Go.wp_at_zero Go.wp_at_succ
def xAt (l : List Int) (k : Nat) : Int := (l.getD k 0).tmod 100
def progTo (l : List Int) : Nat → List Ins
  | 0 => []
  | k + 1 => progTo l k ++ [⟨if k = 0 then 1 else 2, xAt l k⟩]
def sumTo (l : List Int) : Nat → Int
  | 0 => 0
  | k + 1 => if k = 0 then xAt l 0 else (sumTo l k + xAt l k).tmod 100
def sumG (l : List Int) (k : Nat) : MG := { guestNewM (progTo l 6) with a := sumTo l k, pc := k }
theorem xAt_bd {l : List Int} (h : ∀ x ∈ l, 0 ≤ x ∧ x ≤ 9999) (k : Nat) : 0 ≤ xAt l k ∧ xAt l k ≤ 99 := by
  unfold xAt
  have h0 : 0 ≤ l.getD k 0 := by
    rw [List.getD_eq_getElem?_getD]
    cases e : l[k]? with
    | none => simp
    | some x => exact (h x (List.mem_of_getElem? e)).1
  have := Int.tmod_lt_of_pos (l.getD k 0) (by decide : (0 : Int) < 100)
  exact ⟨Int.tmod_nonneg _ h0, by omega⟩
theorem sumTo_bd {l : List Int} (h : ∀ x ∈ l, 0 ≤ x ∧ x ≤ 9999) : ∀ k, 0 ≤ sumTo l k ∧ sumTo l k ≤ 99
  | 0 => by simp [sumTo]
  | k + 1 => by
    have ih := sumTo_bd h k
    have hx := xAt_bd h k
    have hx0 := xAt_bd h 0
    unfold sumTo
    split
    · exact hx0
    · have := Int.tmod_lt_of_pos (sumTo l k + xAt l k) (by decide : (0 : Int) < 100)
      exact ⟨Int.tmod_nonneg _ (by omega), by omega⟩
theorem progTo6 (l : List Int) : progTo l 6 = [⟨1, xAt l 0⟩, ⟨2, xAt l 1⟩, ⟨2, xAt l 2⟩, ⟨2, xAt l 3⟩, ⟨2, xAt l 4⟩, ⟨2, xAt l 5⟩] := rfl
theorem sum_step {l : List Int} (h : ∀ x ∈ l, 0 ≤ x ∧ x ≤ 9999) {k : Nat} (hk : k < 6) : plainlyM (sumG l k) = sumG l (k + 1) := by
  have ha := sumTo_bd h k
  have hx := xAt_bd h k
  have hi : insAtM (progTo l 6) k = ⟨if k = 0 then 1 else 2, xAt l k⟩ := by
    rw [progTo6]
    match k, hk with
    | 0, _ => rfl
    | 1, _ => rfl
    | 2, _ => rfl
    | 3, _ => rfl
    | 4, _ => rfl
    | 5, _ => rfl
  have hw : wantM (sumG l k) = 2 := by
    unfold wantM
    have h1 : canRunM (sumG l k) = true := rfl
    have h2 : takesM (sumG l k) = false := rfl
    have h3 : insAtM (sumG l k).prog (sumG l k).pc = ⟨if k = 0 then 1 else 2, xAt l k⟩ := hi
    rw [h1, h2, h3]
    by_cases h0 : k = 0 <;> simp [h0]
  have h3 : insAtM (sumG l k).prog (sumG l k).pc = ⟨if k = 0 then 1 else 2, xAt l k⟩ := hi
  have hpc : movedM (sumG l k) = { sumG l k with pc := (k : Int) + 1 } := by
    rw [movedM_lo (show (k : Int) < 12 by omega)]
    have e : wrap64 ((k : Int) + 1) = (k : Int) + 1 := by first | (unfold wrap64; omega) | (rw [← IntKind.wrap_i64]; exact wrap_small _ (by omega) (by omega)) | go_num
    show ({ sumG l k with pc := wrap64 ((k : Int) + 1) } : MG) = _
    rw [e]
  unfold plainlyM
  rw [if_pos hw, h3, hpc]
  have hb1 : inB (sumG l k).a 0 99 = true := by show inB (sumTo l k) 0 99 = true; unfold inB; simp; omega
  have hb2 : inB (xAt l k) 0 99 = true := by unfold inB; simp; omega
  rw [hb1, hb2]
  by_cases h0 : k = 0
  · subst h0; rfl
  · have e : (sumTo l k + xAt l k) % 100 = (sumTo l k + xAt l k).tmod 100 := (Int.tmod_eq_emod_of_nonneg (by omega)).symm
    have e2 : sumTo l (k + 1) = (sumTo l k + xAt l k).tmod 100 := by show (if k = 0 then _ else _) = _; rw [if_neg h0]
    simp only [if_neg h0]
    show ({ sumG l k with a := (sumTo l k + xAt l k) % 100, pc := (k : Int) + 1 } : MG) = _
    rw [e, ← e2]; rfl
theorem sumG_halt (l : List Int) : wantM (sumG l 6) = 7 := by
  unfold wantM
  have h1 : canRunM (sumG l 6) = true := rfl
  have h2 : takesM (sumG l 6) = false := rfl
  have h3 : insAtM (sumG l 6).prog (sumG l 6).pc = ⟨7, 0⟩ := by show insAtM (progTo l 6) 6 = _; rw [progTo6]; rfl
  rw [h1, h2, h3]; rfl
theorem sumG_big (l : List Int) (k : Nat) : MBig (sumG l k) := by
  unfold MBig sumG guestNewM big
  refine ⟨by show (progTo l 6).length ≤ _; rw [progTo6]; simp, ?_, ?_, ?_⟩ <;> simp
set_option linter.unusedSimpArgs false in
set_option linter.unusedVariables false in
set_option maxRecDepth 100000 in
set_option maxHeartbeats 8000000 in
theorem walk_fnSums (s : Sl Int) (W0 : World) (ra : Rd u8cell 1 W0 s ∧ s.xs.length ≤ maxLen) : Calls Try.prog 6 #[.slice s.A s.xs.length s.c] W0 fun e w' => e = .returned (.bool true) ∧ Below W0.heap.size W0 w' := by
  obtain ⟨R, _⟩ := ra
  have H := Hp.start W0
  by_cases hbig : 1048576 < s.xs.length
  · have hb : decide (1048576 < s.xs.length) = true := decide_eq_true hbig
    have HB := Lib.hid hb; clear hb
    go_enter Try.func6, Try.ntmps6
    go_wp2_with (first
      | go_skip
      | ((with_reducible refine at_box ?_); first | (refine wpList_box_H rfl rfl H rfl (by first | exact CellsOf.agg | exact CellsOf.int | exact CellsOf.bool | exact CellsOf.slice | exact CellsOf.string | exact CellsOf.pointer | exact CellsOf.func) ?_; clear H; intro bQ w H))
      | ((with_reducible refine at_alloc ?_); first | (refine wpList_alloc_H rfl rfl H ?_; clear H; intro b w H))
      | ((with_reducible refine at_load ?_); first | (refine wpList_load_H rfl rfl H rfl (by repeat (first | exact LoadAt.here rfl | apply LoadAt.there)) ?_) | (refine wpList_loads_H rfl rfl H rfl (by repeat (first | (apply LoadsAt.here; repeat (first | exact GetsAt.nil | apply GetsAt.here | apply GetsAt.there)) | apply LoadsAt.there)) ?_))
      | ((with_reducible refine at_store ?_); first | (refine wpList_store_H rfl rfl H rfl rfl (by repeat (first | (apply StoreAt.here; (first | exact CellsOf.agg | exact CellsOf.int | exact CellsOf.bool | exact CellsOf.slice | exact CellsOf.string | exact CellsOf.pointer | exact CellsOf.func); (repeat (first | exact SetsAt.nil | apply SetsAt.here | apply SetsAt.there)); exact rfl; exact rfl) | apply StoreAt.there)) ?_; clear H; intro w H)))
    go_at_call 12
    refine (big_c s _).mono ?_
    rintro e w ⟨he, K⟩
    rw [HB.out] at he
    subst he
    replace H := H.add_all K
    clear K
    go_wp2_with (first
      | go_skip
      | ((with_reducible refine at_box ?_); first | (refine wpList_box_H rfl rfl H rfl (by first | exact CellsOf.agg | exact CellsOf.int | exact CellsOf.bool | exact CellsOf.slice | exact CellsOf.string | exact CellsOf.pointer | exact CellsOf.func) ?_; clear H; intro bQ w H))
      | ((with_reducible refine at_alloc ?_); first | (refine wpList_alloc_H rfl rfl H ?_; clear H; intro b w H))
      | ((with_reducible refine at_load ?_); first | (refine wpList_load_H rfl rfl H rfl (by repeat (first | exact LoadAt.here rfl | apply LoadAt.there)) ?_) | (refine wpList_loads_H rfl rfl H rfl (by repeat (first | (apply LoadsAt.here; repeat (first | exact GetsAt.nil | apply GetsAt.here | apply GetsAt.there)) | apply LoadsAt.there)) ?_))
      | ((with_reducible refine at_store ?_); first | (refine wpList_store_H rfl rfl H rfl rfl (by repeat (first | (apply StoreAt.here; (first | exact CellsOf.agg | exact CellsOf.int | exact CellsOf.bool | exact CellsOf.slice | exact CellsOf.string | exact CellsOf.pointer | exact CellsOf.func); (repeat (first | exact SetsAt.nil | apply SetsAt.here | apply SetsAt.there)); exact rfl; exact rfl) | apply StoreAt.there)) ?_; clear H; intro w H)))
    go_ret
    exact ⟨rfl, H.below⟩
  have hb : decide (1048576 < s.xs.length) = false := decide_eq_false hbig
  have HB := Lib.hid hb; clear hb
  have Z : s.xs.length ≤ 1048576 := by omega
  clear hbig
  go_enter Try.func6, Try.ntmps6
  go_wp2_with (first
    | go_skip
    | ((with_reducible refine at_box ?_); first | (refine wpList_box_H rfl rfl H rfl (by first | exact CellsOf.agg | exact CellsOf.int | exact CellsOf.bool | exact CellsOf.slice | exact CellsOf.string | exact CellsOf.pointer | exact CellsOf.func) ?_; clear H; intro bQ w H))
    | ((with_reducible refine at_alloc ?_); first | (refine wpList_alloc_H rfl rfl H ?_; clear H; intro b w H))
    | ((with_reducible refine at_load ?_); first | (refine wpList_load_H rfl rfl H rfl (by repeat (first | exact LoadAt.here rfl | apply LoadAt.there)) ?_) | (refine wpList_loads_H rfl rfl H rfl (by repeat (first | (apply LoadsAt.here; repeat (first | exact GetsAt.nil | apply GetsAt.here | apply GetsAt.there)) | apply LoadsAt.there)) ?_))
    | ((with_reducible refine at_store ?_); first | (refine wpList_store_H rfl rfl H rfl rfl (by repeat (first | (apply StoreAt.here; (first | exact CellsOf.agg | exact CellsOf.int | exact CellsOf.bool | exact CellsOf.slice | exact CellsOf.string | exact CellsOf.pointer | exact CellsOf.func); (repeat (first | exact SetsAt.nil | apply SetsAt.here | apply SetsAt.there)); exact rfl; exact rfl) | apply StoreAt.there)) ?_; clear H; intro w H)))
  go_at_call 12
  refine (big_c s _).mono ?_
  rintro e w ⟨he, K⟩
  rw [HB.out] at he
  subst he
  replace H := H.add_all K
  clear K
  go_wp2_with (first
    | go_skip
    | ((with_reducible refine at_box ?_); first | (refine wpList_box_H rfl rfl H rfl (by first | exact CellsOf.agg | exact CellsOf.int | exact CellsOf.bool | exact CellsOf.slice | exact CellsOf.string | exact CellsOf.pointer | exact CellsOf.func) ?_; clear H; intro bQ w H))
    | ((with_reducible refine at_alloc ?_); first | (refine wpList_alloc_H rfl rfl H ?_; clear H; intro b w H))
    | ((with_reducible refine at_load ?_); first | (refine wpList_load_H rfl rfl H rfl (by repeat (first | exact LoadAt.here rfl | apply LoadAt.there)) ?_) | (refine wpList_loads_H rfl rfl H rfl (by repeat (first | (apply LoadsAt.here; repeat (first | exact GetsAt.nil | apply GetsAt.here | apply GetsAt.there)) | apply LoadsAt.there)) ?_))
    | ((with_reducible refine at_store ?_); first | (refine wpList_store_H rfl rfl H rfl rfl (by repeat (first | (apply StoreAt.here; (first | exact CellsOf.agg | exact CellsOf.int | exact CellsOf.bool | exact CellsOf.slice | exact CellsOf.string | exact CellsOf.pointer | exact CellsOf.func); (repeat (first | exact SetsAt.nil | apply SetsAt.here | apply SetsAt.there)); exact rfl; exact rfl) | apply StoreAt.there)) ?_; clear H; intro w H)))
  go_at_call 13
  refine (drawPlaces_c s _ (R.at_ H) Z).mono ?_
  rintro e w ⟨p, rfl, hpl, hpb, K⟩
  replace H := H.add_all K
  clear K
  have HPB := Lib.hid hpb
  have HPL := Lib.hid hpl
  have hlen : ∀ k, k < 12 → k < p.xs.length := fun k hk => by rw [hpl]; exact hk
  obtain ⟨p0, hp0e⟩ : ∃ p0, p.xs[0]? = some p0 := ⟨_, List.getElem?_eq_getElem (by omega)⟩
  have HP0 := Lib.hid hp0e
  have E0 : Hid (xAt p.xs 0 = p0.tmod 100) := Lib.hid (by unfold xAt; rw [List.getD_eq_getElem?_getD, hp0e]; rfl)
  have hp0 : 0 < p.xs.length := by omega
  clear hpl hpb hp0e
  go_wp2_with (first
    | go_skip
    | ((with_reducible refine at_box ?_); first | (refine wpList_box_H rfl rfl H rfl (by first | exact CellsOf.agg | exact CellsOf.int | exact CellsOf.bool | exact CellsOf.slice | exact CellsOf.string | exact CellsOf.pointer | exact CellsOf.func) ?_; clear H; intro bQ w H))
    | ((with_reducible refine at_alloc ?_); first | (refine wpList_alloc_H rfl rfl H ?_; clear H; intro b w H))
    | ((with_reducible refine at_load ?_); first | (refine wpList_load_rd rfl rfl p (H.rd (s := p) (by repeat (first | exact Take.head | apply Take.tail)) int_len) rfl p0 HP0.out rfl ?_) | (refine wpList_load_H rfl rfl H rfl (by repeat (first | exact LoadAt.here rfl | apply LoadAt.there)) ?_) | (refine wpList_loads_H rfl rfl H rfl (by repeat (first | (apply LoadsAt.here; repeat (first | exact GetsAt.nil | apply GetsAt.here | apply GetsAt.there)) | apply LoadsAt.there)) ?_))
    | ((with_reducible refine at_store ?_); first | (refine wpList_store_H rfl rfl H rfl rfl (by repeat (first | (apply StoreAt.here; (first | exact CellsOf.agg | exact CellsOf.int | exact CellsOf.bool | exact CellsOf.slice | exact CellsOf.string | exact CellsOf.pointer | exact CellsOf.func); (repeat (first | exact SetsAt.nil | apply SetsAt.here | apply SetsAt.there)); exact rfl; exact rfl) | apply StoreAt.there)) ?_; clear H; intro w H))
    | ((with_reducible refine at_index ?_); first | (refine wpList_index_n rfl rfl (k := 0) p (H.rd (s := p) (by repeat (first | exact Take.head | apply Take.tail)) int_len) rfl rfl rfl hp0 ?_))
    | ((with_reducible refine at_slice ?_); first | (refine wpList_one_H rfl rfl H (⟨1, p0.tmod 100⟩ : Ins) rfl CellsOf.agg rfl (by decide) ?_; clear H; intro bl w H)))
  go_loopw [4, 5, 6] (fun pv sv i wr => ∃ (k : Nat) (d : Sl Ins), 1 ≤ k ∧ k ≤ 6 ∧ i = .int .i64 k ∧ sv = .int .i64 (sumTo p.xs k) ∧ pv = .slice d.A d.xs.length d.c ∧ Hid (d.xs.length = k) ∧ Hid (d.xs = progTo p.xs k) ∧ Hp W0 wr [.ins d, .int p]) (fun _ _ i _ => 6 - (intOf i).toNat)
  case atStart => exact ⟨1, ⟨some ⟨bl, 0, none⟩, 1, [⟨1, p0.tmod 100⟩]⟩, by omega, by omega, rfl, by rw [← E0.out]; rfl, rfl, Lib.hid rfl, Lib.hid (by rw [← E0.out]; rfl), H.pick (.cons (by repeat (first | exact Take.head | apply Take.tail)) (.cons (by repeat (first | exact Take.head | apply Take.tail)) .nil))⟩
  case round =>
    clear H
    obtain ⟨k, d, hk1, hk0, rfl, rfl, rfl, HL, HD, H⟩ := hrel
    by_cases hk : k < 6
    · obtain ⟨y, hye⟩ : ∃ y, p.xs[k]? = some y := ⟨_, List.getElem?_eq_getElem (hlen k (by omega))⟩
      have HY := Lib.hid hye
      have EY : Hid (xAt p.xs k = y.tmod 100) := Lib.hid (by unfold xAt; rw [List.getD_eq_getElem?_getD, hye]; rfl)
      have hkp := hlen k (by omega)
      clear hye
      have hs := sumTo_bd HPB.out k
      have hxk := xAt_bd HPB.out k
      rw [EY.out] at hxk
      go_wp2_with (first
        | go_skip
        | ((with_reducible refine at_box ?_); first | (refine wpList_box_H rfl rfl H rfl (by first | exact CellsOf.agg | exact CellsOf.int | exact CellsOf.bool | exact CellsOf.slice | exact CellsOf.string | exact CellsOf.pointer | exact CellsOf.func) ?_; clear H; intro bQ w H))
        | ((with_reducible refine at_alloc ?_); first | (refine wpList_alloc_H rfl rfl H ?_; clear H; intro b w H))
        | ((with_reducible refine at_load ?_); first | (refine wpList_load_rd rfl rfl p (H.rd (s := p) (by repeat (first | exact Take.head | apply Take.tail)) int_len) rfl y HY.out rfl ?_) | (refine wpList_load_H rfl rfl H rfl (by repeat (first | exact LoadAt.here rfl | apply LoadAt.there)) ?_) | (refine wpList_loads_H rfl rfl H rfl (by repeat (first | (apply LoadsAt.here; repeat (first | exact GetsAt.nil | apply GetsAt.here | apply GetsAt.there)) | apply LoadsAt.there)) ?_))
        | ((with_reducible refine at_store ?_); first | (refine wpList_store_H rfl rfl H rfl rfl (by repeat (first | (apply StoreAt.here; (first | exact CellsOf.agg | exact CellsOf.int | exact CellsOf.bool | exact CellsOf.slice | exact CellsOf.string | exact CellsOf.pointer | exact CellsOf.func); (repeat (first | exact SetsAt.nil | apply SetsAt.here | apply SetsAt.there)); exact rfl; exact rfl) | apply StoreAt.there)) ?_; clear H; intro w H))
        | ((with_reducible refine at_index ?_); first | (refine wpList_index_n rfl rfl (k := k) p (H.rd (s := p) (by repeat (first | exact Take.head | apply Take.tail)) int_len) rfl rfl rfl hkp ?_))
        | ((with_reducible refine at_slice ?_); first | (refine wpList_one_H rfl rfl H (⟨2, y.tmod 100⟩ : Ins) rfl CellsOf.agg rfl (by decide) ?_; clear H; intro bl w H))
        | ((with_reducible refine at_append ?_); first | (refine wpList_append_H rfl rfl H d (⟨some ⟨bl, 0, none⟩, 1, [⟨2, y.tmod 100⟩]⟩ : Sl Ins) rfl rfl (by repeat (first | exact Take.head | apply Take.tail)) (H.rd (s := (⟨some ⟨bl, 0, none⟩, 1, [⟨2, y.tmod 100⟩]⟩ : Sl Ins)) (by repeat (first | exact Take.head | apply Take.tail)) ins_len) (by have := HL.out; simp only [List.length_cons, List.length_nil]; omega) (by decide) ?_; clear H; intro d' w hx' H)))
      go_roundw
      case rel =>
        have h0 : k ≠ 0 := by omega
        have e1 : sumTo p.xs (k + 1) = (sumTo p.xs k + y.tmod 100).tmod 100 := by show (if k = 0 then _ else _) = _; rw [if_neg h0, EY.out]
        have e2 : progTo p.xs (k + 1) = progTo p.xs k ++ [⟨2, y.tmod 100⟩] := by show progTo p.xs k ++ [⟨if k = 0 then 1 else 2, xAt p.xs k⟩] = _; rw [if_neg h0, EY.out]
        exact ⟨k + 1, d', by omega, by omega, by go_num, by rw [e1, Int.tmod_eq_emod_of_nonneg (a := sumTo p.xs k + y.tmod 100) (by omega)], rfl, Lib.hid (by rw [hx'.out]; simp [HL.out]), Lib.hid (by rw [hx'.out, e2, HD.out]), H.pick (.cons (by repeat (first | exact Take.head | apply Take.tail)) (.cons (by repeat (first | exact Take.head | apply Take.tail)) .nil))⟩
      case measure => simp [intOf]; omega
    · have hke : k = 6 := by omega
      subst hke
      go_wp2_with (first
        | go_skip
        | ((with_reducible refine at_box ?_); first | (refine wpList_box_H rfl rfl H rfl (by first | exact CellsOf.agg | exact CellsOf.int | exact CellsOf.bool | exact CellsOf.slice | exact CellsOf.string | exact CellsOf.pointer | exact CellsOf.func) ?_; clear H; intro bQ w H))
        | ((with_reducible refine at_alloc ?_); first | (refine wpList_alloc_H rfl rfl H ?_; clear H; intro b w H))
        | ((with_reducible refine at_load ?_); first | (refine wpList_load_H rfl rfl H rfl (by repeat (first | exact LoadAt.here rfl | apply LoadAt.there)) ?_) | (refine wpList_loads_H rfl rfl H rfl (by repeat (first | (apply LoadsAt.here; repeat (first | exact GetsAt.nil | apply GetsAt.here | apply GetsAt.there)) | apply LoadsAt.there)) ?_))
        | ((with_reducible refine at_store ?_); first | (refine wpList_store_H rfl rfl H rfl rfl (by repeat (first | (apply StoreAt.here; (first | exact CellsOf.agg | exact CellsOf.int | exact CellsOf.bool | exact CellsOf.slice | exact CellsOf.string | exact CellsOf.pointer | exact CellsOf.func); (repeat (first | exact SetsAt.nil | apply SetsAt.here | apply SetsAt.there)); exact rfl; exact rfl) | apply StoreAt.there)) ?_; clear H; intro w H)))
      go_at_call 14
      refine (guestNew_c d _ (H.rd (s := d) (by repeat (first | exact Take.head | apply Take.tail)) ins_len) (by rw [HL.out]; decide)).mono ?_
      rintro e w ⟨g0, rfl, hg, K⟩
      replace H := H.add_all K
      clear K
      have HG0 : Hid (g0.m = sumG p.xs 0) := Lib.hid (by rw [hg, HD.out]; rfl)
      clear hg
      go_wp2_with (first
        | go_skip
        | ((with_reducible refine at_box ?_); first | (refine wpList_box_H rfl rfl H rfl (by first | exact CellsOf.agg | exact CellsOf.int | exact CellsOf.bool | exact CellsOf.slice | exact CellsOf.string | exact CellsOf.pointer | exact CellsOf.func) ?_; clear H; intro bQ w H))
        | ((with_reducible refine at_alloc ?_); first | (refine wpList_alloc_H rfl rfl H ?_; clear H; intro bG w H))
        | ((with_reducible refine at_load ?_); first | (refine wpList_load_H rfl rfl H rfl (by repeat (first | exact LoadAt.here rfl | apply LoadAt.there)) ?_) | (refine wpList_loads_H rfl rfl H rfl (by repeat (first | (apply LoadsAt.here; repeat (first | exact GetsAt.nil | apply GetsAt.here | apply GetsAt.there)) | apply LoadsAt.there)) ?_))
        | ((with_reducible refine at_store ?_); first | (refine wpList_store_H rfl rfl H rfl rfl (by repeat (first | (apply StoreAt.here; (first | exact CellsOf.agg | exact CellsOf.int | exact CellsOf.bool | exact CellsOf.slice | exact CellsOf.string | exact CellsOf.pointer | exact CellsOf.func); (repeat (first | exact SetsAt.nil | apply SetsAt.here | apply SetsAt.there)); exact rfl; exact rfl) | apply StoreAt.there)) ?_; clear H; intro w H)))
      clear HL HD
      go_loopw [8] (fun i wr => ∃ (k : Nat) (g : GV), k ≤ 6 ∧ i = .int .i64 k ∧ Hid (g.m = sumG p.xs k) ∧ Hp W0 wr [.box bG 33 (garr g).toList, .gst g, .int p]) (fun i _ => 6 - (intOf i).toNat)
      case atStart => exact ⟨0, g0, by omega, rfl, HG0, H.pick (.cons (by repeat (first | exact Take.head | apply Take.tail)) (.cons (by repeat (first | exact Take.head | apply Take.tail)) (.cons (by repeat (first | exact Take.head | apply Take.tail)) .nil)))⟩
      case round =>
        clear H HG0
        obtain ⟨k, g, hk0, rfl, HG, H⟩ := hrel
        have ZG := Lib.hid (gbig_mm (sumG_big _ _) HG)
        by_cases hk : k < 6
        · skip
          go_wp2_with (first
            | go_skip
            | ((with_reducible refine at_box ?_); first | (refine wpList_box_H rfl rfl H rfl (by first | exact CellsOf.agg | exact CellsOf.int | exact CellsOf.bool | exact CellsOf.slice | exact CellsOf.string | exact CellsOf.pointer | exact CellsOf.func) ?_; clear H; intro bQ w H))
            | ((with_reducible refine at_alloc ?_); first | (refine wpList_alloc_H rfl rfl H ?_; clear H; intro b w H))
            | ((with_reducible refine at_load ?_); first | (refine wpList_load_H rfl rfl H rfl (by repeat (first | exact LoadAt.here rfl | apply LoadAt.there)) ?_) | (refine wpList_loads_H rfl rfl H rfl (by repeat (first | (apply LoadsAt.here; repeat (first | exact GetsAt.nil | apply GetsAt.here | apply GetsAt.there)) | apply LoadsAt.there)) ?_))
            | ((with_reducible refine at_store ?_); first | (refine wpList_store_H rfl rfl H rfl rfl (by repeat (first | (apply StoreAt.here; (first | exact CellsOf.agg | exact CellsOf.int | exact CellsOf.bool | exact CellsOf.slice | exact CellsOf.string | exact CellsOf.pointer | exact CellsOf.func); (repeat (first | exact SetsAt.nil | apply SetsAt.here | apply SetsAt.there)); exact rfl; exact rfl) | apply StoreAt.there)) ?_; clear H; intro w H))
            | (go_at_call 31; refine (mkG_H H (plainly_c g _ rfl _ (H.gown (g := g) (by repeat (first | exact Take.head | apply Take.tail))).rd ZG.out)).mono ?_; clear H; rintro e w ⟨g2, rfl, HG2, H⟩))
          go_roundw
          case rel => exact ⟨k + 1, g2, by omega, by go_num, Lib.hid (by rw [HG2.out, HG.out]; exact sum_step HPB.out hk), H.pick (.cons (by repeat (first | exact Take.head | apply Take.tail)) (.cons (by repeat (first | exact Take.head | apply Take.tail)) (.cons (by repeat (first | exact Take.head | apply Take.tail)) .nil)))⟩
          case measure => simp [intOf]; omega
        · have hke : k = 6 := by omega
          subst hke
          have HW : Hid (wantM g.m = 7) := Lib.hid (by rw [HG.out]; exact sumG_halt _)
          have HC : Hid (canRunM g.m = true) := Lib.hid (by rw [HG.out]; rfl)
          have ha : g.a = sumTo p.xs 6 := congrArg MG.a HG.out
          have hpc : g.pc = 6 := congrArg MG.pc HG.out
          have hz : g.prog.xs.length ≤ big := ZG.out.1
          have HZ := Lib.hid hz
          clear hz ZG HG
          obtain ⟨gp, ga, gpc, gw, gl, gc, gpn, gx, gh, gs⟩ := g
          simp only at ha hpc
          subst ha hpc
          try simp only [] at HZ
          go_wp2_with (first
            | go_skip
            | ((with_reducible refine at_box ?_); first | (refine wpList_box_H rfl rfl H rfl (by first | exact CellsOf.agg | exact CellsOf.int | exact CellsOf.bool | exact CellsOf.slice | exact CellsOf.string | exact CellsOf.pointer | exact CellsOf.func) ?_; clear H; intro bQ w H))
            | ((with_reducible refine at_alloc ?_); first | (refine wpList_alloc_H rfl rfl H ?_; clear H; intro b w H))
            | ((with_reducible refine at_load ?_); first | (refine wpList_load_H rfl rfl H rfl (by repeat (first | exact LoadAt.here rfl | apply LoadAt.there)) ?_) | (refine wpList_loads_H rfl rfl H rfl (by repeat (first | (apply LoadsAt.here; repeat (first | exact GetsAt.nil | apply GetsAt.here | apply GetsAt.there)) | apply LoadsAt.there)) ?_))
            | ((with_reducible refine at_store ?_); first | (refine wpList_store_H rfl rfl H rfl rfl (by repeat (first | (apply StoreAt.here; (first | exact CellsOf.agg | exact CellsOf.int | exact CellsOf.bool | exact CellsOf.slice | exact CellsOf.string | exact CellsOf.pointer | exact CellsOf.func); (repeat (first | exact SetsAt.nil | apply SetsAt.here | apply SetsAt.there)); exact rfl; exact rfl) | apply StoreAt.there)) ?_; clear H; intro w H))
            | (go_at_call 32; refine (wantOf_any ⟨gp, sumTo p.xs 6, 6, gw, gl, gc, gpn, gx, gh, gs⟩ _ (H.gown (g := ⟨gp, sumTo p.xs 6, 6, gw, gl, gc, gpn, gx, gh, gs⟩) (by repeat (first | exact Take.head | apply Take.tail))).rd.prog HZ.out).mono ?_; rintro e w ⟨he, hb⟩; rw [HW.out] at he; subst he; replace H := H.still hb; clear hb)
            | (go_at_call 33; refine (canRun_any ⟨gp, sumTo p.xs 6, 6, gw, gl, gc, gpn, gx, gh, gs⟩ _).mono ?_; rintro e w ⟨he, hb⟩; rw [HC.out] at he; subst he; replace H := H.still hb; clear hb))
          go_ret
          exact ⟨rfl, H.below⟩
end Go.Proofs.Ytedjbholpdinkaa
