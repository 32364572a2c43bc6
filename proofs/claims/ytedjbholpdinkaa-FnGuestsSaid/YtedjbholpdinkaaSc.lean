/- Walk of the law FnSeenCap. No condition but that the argument lies in memory. -/
import Derived.Test.YtedjbholpdinkaaDw
import Derived.Test.YtedjbholpdinkaaLh
namespace Go.Proofs.Ytedjbholpdinkaa
open Go.RowKit
attribute [local go_sem ↓] Go.wp_at_zero Go.wp_at_succ
def seenTo (r : Int) (k : Nat) : List Int := (List.range (min k 40)).map fun (j : Nat) => (j : Int) + r
theorem seen_step {g : MG} {r : Int} {k : Nat} (h : g.seen = seenTo r k) : (sawM g ((k : Int) + r)).seen = seenTo r (k + 1) := by
  have hl : g.seen.length = min k 40 := by rw [h]; simp [seenTo]
  unfold sawM
  by_cases hk : k < 40
  · have h1 : min k 40 = k := by omega
    have h2 : min (k + 1) 40 = k + 1 := by omega
    rw [if_pos (by omega)]
    show g.seen ++ [(k : Int) + r] = _
    rw [h]; unfold seenTo; rw [h1, h2, List.range_succ, List.map_append]; rfl
  · have h1 : min k 40 = 40 := by omega
    have h2 : min (k + 1) 40 = 40 := by omega
    rw [if_neg (by omega), h]; unfold seenTo; rw [h1, h2]
theorem wrap_small (x : Int) (h0 : -1000000 ≤ x) (h1 : x ≤ 1000000) : IntKind.i64.wrap x = x := by
  simp only [IntKind.wrap, IntKind.bits, IntKind.signed]
  simp; omega
theorem guestNewM_big0 : MBig (guestNewM []) := by
  unfold MBig guestNewM big
  refine ⟨?_, ?_, ?_, ?_⟩ <;> simp
set_option linter.unusedSimpArgs false in
set_option linter.unusedVariables false in
set_option maxRecDepth 100000 in
set_option maxHeartbeats 8000000 in
theorem walk_fnSeenCap (s : Sl Int) (W0 : World) (ra : Rd u8cell 1 W0 s ∧ s.xs.length ≤ maxLen) : Calls Try.prog 3 #[.slice s.A s.xs.length s.c] W0 fun e w' => e = .returned (.bool true) ∧ Below W0.heap.size W0 w' := by
  obtain ⟨R, _⟩ := ra
  have H := Hp.start W0
  by_cases hbig : 1048576 < s.xs.length
  · have hb : decide (1048576 < s.xs.length) = true := decide_eq_true hbig
    have HB := Lib.hid hb; clear hb
    go_enter Try.func3, Try.ntmps3
    go_wp2_with (first
      | go_skip
      | ((with_reducible refine at_box ?_); first | (refine wpList_box_H rfl rfl H rfl (by first | exact CellsOf.agg | exact CellsOf.int | exact CellsOf.bool | exact CellsOf.slice | exact CellsOf.string | exact CellsOf.pointer | exact CellsOf.func) ?_; clear H; intro bQ w H))
      | ((with_reducible refine at_alloc ?_); first | (refine wpList_alloc_H rfl rfl H ?_; clear H; intro b w H))
      | ((with_reducible refine at_load ?_); first | (refine wpList_load_H rfl rfl H rfl (by repeat (first | exact LoadAt.here rfl | apply LoadAt.there)) ?_) | (refine wpList_loads_H rfl rfl H rfl (by repeat (first | (apply LoadsAt.here; repeat (first | exact GetsAt.nil | apply GetsAt.here | apply GetsAt.there)) | apply LoadsAt.there)) ?_))
      | ((with_reducible refine at_store ?_); first | (refine wpList_store_H rfl rfl H rfl rfl (by repeat (first | (apply StoreAt.here; (first | exact CellsOf.agg | exact CellsOf.int | exact CellsOf.bool | exact CellsOf.slice | exact CellsOf.string | exact CellsOf.pointer | exact CellsOf.func); (repeat (first | exact SetsAt.nil | apply SetsAt.here | apply SetsAt.there)); exact rfl; exact rfl) | apply StoreAt.there)) ?_; clear H; intro w H)))
    go_at_call 12
    refine (big_c s _).mono ?_
    rintro e w ⟨he, K⟩
    rw [HB.out] at he
    subst he
    replace H := H.add_all K
    clear K
    go_wp2_with (first
      | go_skip
      | ((with_reducible refine at_box ?_); first | (refine wpList_box_H rfl rfl H rfl (by first | exact CellsOf.agg | exact CellsOf.int | exact CellsOf.bool | exact CellsOf.slice | exact CellsOf.string | exact CellsOf.pointer | exact CellsOf.func) ?_; clear H; intro bQ w H))
      | ((with_reducible refine at_alloc ?_); first | (refine wpList_alloc_H rfl rfl H ?_; clear H; intro b w H))
      | ((with_reducible refine at_load ?_); first | (refine wpList_load_H rfl rfl H rfl (by repeat (first | exact LoadAt.here rfl | apply LoadAt.there)) ?_) | (refine wpList_loads_H rfl rfl H rfl (by repeat (first | (apply LoadsAt.here; repeat (first | exact GetsAt.nil | apply GetsAt.here | apply GetsAt.there)) | apply LoadsAt.there)) ?_))
      | ((with_reducible refine at_store ?_); first | (refine wpList_store_H rfl rfl H rfl rfl (by repeat (first | (apply StoreAt.here; (first | exact CellsOf.agg | exact CellsOf.int | exact CellsOf.bool | exact CellsOf.slice | exact CellsOf.string | exact CellsOf.pointer | exact CellsOf.func); (repeat (first | exact SetsAt.nil | apply SetsAt.here | apply SetsAt.there)); exact rfl; exact rfl) | apply StoreAt.there)) ?_; clear H; intro w H)))
    go_ret
    exact ⟨rfl, H.below⟩
  have hb : decide (1048576 < s.xs.length) = false := decide_eq_false hbig
  have HB := Lib.hid hb; clear hb
  have Z : s.xs.length ≤ 1048576 := by omega
  clear hbig
  go_enter Try.func3, Try.ntmps3
  go_wp2_with (first
    | go_skip
    | ((with_reducible refine at_box ?_); first | (refine wpList_box_H rfl rfl H rfl (by first | exact CellsOf.agg | exact CellsOf.int | exact CellsOf.bool | exact CellsOf.slice | exact CellsOf.string | exact CellsOf.pointer | exact CellsOf.func) ?_; clear H; intro bQ w H))
    | ((with_reducible refine at_alloc ?_); first | (refine wpList_alloc_H rfl rfl H ?_; clear H; intro b w H))
    | ((with_reducible refine at_load ?_); first | (refine wpList_load_H rfl rfl H rfl (by repeat (first | exact LoadAt.here rfl | apply LoadAt.there)) ?_) | (refine wpList_loads_H rfl rfl H rfl (by repeat (first | (apply LoadsAt.here; repeat (first | exact GetsAt.nil | apply GetsAt.here | apply GetsAt.there)) | apply LoadsAt.there)) ?_))
    | ((with_reducible refine at_store ?_); first | (refine wpList_store_H rfl rfl H rfl rfl (by repeat (first | (apply StoreAt.here; (first | exact CellsOf.agg | exact CellsOf.int | exact CellsOf.bool | exact CellsOf.slice | exact CellsOf.string | exact CellsOf.pointer | exact CellsOf.func); (repeat (first | exact SetsAt.nil | apply SetsAt.here | apply SetsAt.there)); exact rfl; exact rfl) | apply StoreAt.there)) ?_; clear H; intro w H)))
  go_at_call 12
  refine (big_c s _).mono ?_
  rintro e w ⟨he, K⟩
  rw [HB.out] at he
  subst he
  replace H := H.add_all K
  clear K
  go_wp2_with (first
    | go_skip
    | ((with_reducible refine at_box ?_); first | (refine wpList_box_H rfl rfl H rfl (by first | exact CellsOf.agg | exact CellsOf.int | exact CellsOf.bool | exact CellsOf.slice | exact CellsOf.string | exact CellsOf.pointer | exact CellsOf.func) ?_; clear H; intro bQ w H))
    | ((with_reducible refine at_alloc ?_); first | (refine wpList_alloc_H rfl rfl H ?_; clear H; intro b w H))
    | ((with_reducible refine at_load ?_); first | (refine wpList_load_H rfl rfl H rfl (by repeat (first | exact LoadAt.here rfl | apply LoadAt.there)) ?_) | (refine wpList_loads_H rfl rfl H rfl (by repeat (first | (apply LoadsAt.here; repeat (first | exact GetsAt.nil | apply GetsAt.here | apply GetsAt.there)) | apply LoadsAt.there)) ?_))
    | ((with_reducible refine at_store ?_); first | (refine wpList_store_H rfl rfl H rfl rfl (by repeat (first | (apply StoreAt.here; (first | exact CellsOf.agg | exact CellsOf.int | exact CellsOf.bool | exact CellsOf.slice | exact CellsOf.string | exact CellsOf.pointer | exact CellsOf.func); (repeat (first | exact SetsAt.nil | apply SetsAt.here | apply SetsAt.there)); exact rfl; exact rfl) | apply StoreAt.there)) ?_; clear H; intro w H)))
  go_at_call 13
  refine (drawPlaces_c s _ (R.at_ H) Z).mono ?_
  rintro e w ⟨p, rfl, hpl, hpb, K⟩
  replace H := H.add_all K
  clear K
  obtain ⟨p0, hp0e⟩ : ∃ p0, p.xs[0]? = some p0 := ⟨_, List.getElem?_eq_getElem (by omega)⟩
  have HP0 := Lib.hid hp0e
  have hpp := hpb p0 (List.mem_of_getElem? hp0e)
  have hp0 : 0 < p.xs.length := by omega
  have hr0 : 0 ≤ p0.tmod 50 := Int.tmod_nonneg _ hpp.1
  have hr1 : p0.tmod 50 < 50 := Int.tmod_lt_of_pos _ (by decide)
  have HW39 : Hid (IntKind.i64.wrap (39 + p0.tmod 50) = 39 + p0.tmod 50) := Lib.hid (wrap_small _ (by omega) (by omega))
  clear hpl hpb hp0e hpp
  go_wp2_with (first
    | go_skip
    | ((with_reducible refine at_box ?_); first | (refine wpList_box_H rfl rfl H rfl (by first | exact CellsOf.agg | exact CellsOf.int | exact CellsOf.bool | exact CellsOf.slice | exact CellsOf.string | exact CellsOf.pointer | exact CellsOf.func) ?_; clear H; intro bQ w H))
    | ((with_reducible refine at_alloc ?_); first | (refine wpList_alloc_H rfl rfl H ?_; clear H; intro b w H))
    | ((with_reducible refine at_load ?_); first | (refine wpList_load_H rfl rfl H rfl (by repeat (first | exact LoadAt.here rfl | apply LoadAt.there)) ?_) | (refine wpList_loads_H rfl rfl H rfl (by repeat (first | (apply LoadsAt.here; repeat (first | exact GetsAt.nil | apply GetsAt.here | apply GetsAt.there)) | apply LoadsAt.there)) ?_))
    | ((with_reducible refine at_store ?_); first | (refine wpList_store_H rfl rfl H rfl rfl (by repeat (first | (apply StoreAt.here; (first | exact CellsOf.agg | exact CellsOf.int | exact CellsOf.bool | exact CellsOf.slice | exact CellsOf.string | exact CellsOf.pointer | exact CellsOf.func); (repeat (first | exact SetsAt.nil | apply SetsAt.here | apply SetsAt.there)); exact rfl; exact rfl) | apply StoreAt.there)) ?_; clear H; intro w H)))
  go_at_call 14
  refine (guestNew_c ⟨none, 0, []⟩ _ (Rd.nil _ _ _) (by simp)).mono ?_
  rintro e w ⟨g0, rfl, hg, K⟩
  replace H := H.add_all K
  clear K
  have HG0 : Hid (g0.m = guestNewM []) := Lib.hid hg
  clear hg
  go_wp2_with (first
    | go_skip
    | ((with_reducible refine at_box ?_); first | (refine wpList_box_H rfl rfl H rfl (by first | exact CellsOf.agg | exact CellsOf.int | exact CellsOf.bool | exact CellsOf.slice | exact CellsOf.string | exact CellsOf.pointer | exact CellsOf.func) ?_; clear H; intro bQ w H))
    | ((with_reducible refine at_alloc ?_); first | (refine wpList_alloc_H rfl rfl H ?_; clear H; intro bG w H))
    | ((with_reducible refine at_load ?_); first | (refine wpList_load_H rfl rfl H rfl (by repeat (first | exact LoadAt.here rfl | apply LoadAt.there)) ?_) | (refine wpList_loads_H rfl rfl H rfl (by repeat (first | (apply LoadsAt.here; repeat (first | exact GetsAt.nil | apply GetsAt.here | apply GetsAt.there)) | apply LoadsAt.there)) ?_))
    | ((with_reducible refine at_store ?_); first | (refine wpList_store_H rfl rfl H rfl rfl (by repeat (first | (apply StoreAt.here; (first | exact CellsOf.agg | exact CellsOf.int | exact CellsOf.bool | exact CellsOf.slice | exact CellsOf.string | exact CellsOf.pointer | exact CellsOf.func); (repeat (first | exact SetsAt.nil | apply SetsAt.here | apply SetsAt.there)); exact rfl; exact rfl) | apply StoreAt.there)) ?_; clear H; intro w H)))
  go_loopw [5] (fun i wr => ∃ (k : Nat) (g : GV), k ≤ 45 ∧ i = .int .i64 k ∧ Hid (GBig g) ∧ Hid (g.m.seen = seenTo (p0.tmod 50) k) ∧ Hp W0 wr [.box bG 33 (garr g).toList, .gst g, .int p]) (fun i _ => 45 - (intOf i).toNat)
  case atStart => exact ⟨0, g0, by omega, rfl, Lib.hid (gbig_mm guestNewM_big0 HG0), Lib.hid (by rw [HG0.out]; rfl), H.pick (.cons (by repeat (first | exact Take.head | apply Take.tail)) (.cons (by repeat (first | exact Take.head | apply Take.tail)) (.cons (by repeat (first | exact Take.head | apply Take.tail)) .nil)))⟩
  case round =>
    clear H HG0
    obtain ⟨k, g, hk0, rfl, HZ, HS, H⟩ := hrel
    by_cases hk : k < 45
    · have HW : Hid (IntKind.i64.wrap ((k : Int) + p0.tmod 50) = (k : Int) + p0.tmod 50) := Lib.hid (wrap_small _ (by omega) (by omega))
      go_wp2
      refine wp_cut (fun u a' w' => ∃ (g2 : GV), Hid (g2.m = sawM g.m ((k : Int) + (p0.tmod 50))) ∧ Hp W0 w' [.box bG 33 (garr g2).toList, .gst g2, .gst g, .int p] ∧ a' = puts u [(15, g.val), (16, (.int .i64 k)), (17, (.slice p.A p.xs.length p.c)), (18, (.pointer (some ⟨ablk p.A, aoff p.A + 0 * 1, none⟩))), (19, (.int .i64 p0)), (20, (.int .i64 (p0.tmod 50))), (21, (.int .i64 ((k : Int) + (p0.tmod 50)))), (22, g2.val)]) ?_ ?_
      · refine wp_region_last 8 (S := (fun w' => Rw w' bG 33 (garr g) ∧ Rd icell 1 w' p)) (by kernel_rfl) ?_
        replace H := H.drew
        refine takeL (i := 0) rfl .here (by kernel_rfl) (by kernel_rfl) (by kernel_rfl) (fun _ _ _ h => absurd h.1 (by simp)) (by kernel_rfl) (yields_loads_R rfl rfl rfl (fun _ hS => hS.1) (by repeat (first | exact GetsAt.nil | apply GetsAt.here | apply GetsAt.there))) ⟨H.rw_ (by repeat (first | exact Take.head | apply Take.tail)), H.rd (s := p) (by repeat (first | exact Take.head | apply Take.tail)) int_len⟩ ?_
        (try simp only [Act.put, List.setIfInBounds_toArray, List.set_cons_succ, List.set_cons_zero])
        refine takeL (i := 1) rfl (.there .here) (by kernel_rfl) (by kernel_rfl) (by kernel_rfl) (fun _ _ _ h => absurd h.1 (by simp)) (by kernel_rfl) (yields_val (v := (.int .i64 k)) rfl (fun _ => by go_simp)) ⟨H.rw_ (by repeat (first | exact Take.head | apply Take.tail)), H.rd (s := p) (by repeat (first | exact Take.head | apply Take.tail)) int_len⟩ ?_
        (try simp only [Act.put, List.setIfInBounds_toArray, List.set_cons_succ, List.set_cons_zero])
        refine takeL (i := 2) rfl (.there (.there .here)) (by kernel_rfl) (by kernel_rfl) (by kernel_rfl) (fun _ _ _ h => absurd h.1 (by simp)) (by kernel_rfl) (yields_val (v := (.slice p.A p.xs.length p.c)) rfl (fun _ => by go_simp)) ⟨H.rw_ (by repeat (first | exact Take.head | apply Take.tail)), H.rd (s := p) (by repeat (first | exact Take.head | apply Take.tail)) int_len⟩ ?_
        (try simp only [Act.put, List.setIfInBounds_toArray, List.set_cons_succ, List.set_cons_zero])
        refine takeL (i := 3) rfl (.there (.there (.there .here))) (by kernel_rfl) (by kernel_rfl) (by kernel_rfl) (fun _ _ _ h => absurd h.1 (by simp)) (by kernel_rfl) (yields_index_nn rfl rfl (k := 0) p (fun _ hS => hS.2) rfl rfl rfl hp0) ⟨H.rw_ (by repeat (first | exact Take.head | apply Take.tail)), H.rd (s := p) (by repeat (first | exact Take.head | apply Take.tail)) int_len⟩ ?_
        (try simp only [Act.put, List.setIfInBounds_toArray, List.set_cons_succ, List.set_cons_zero])
        refine takeL (i := 4) rfl (.there (.there (.there (.there .here)))) (by kernel_rfl) (by kernel_rfl) (by kernel_rfl) (fun _ _ _ h => absurd h.1 (by simp)) (by kernel_rfl) (yields_load_rdd rfl rfl p (fun _ hS => hS.2) rfl p0 HP0.out (by first | exact rfl | exact (Nat.add_zero _).symm) rfl) ⟨H.rw_ (by repeat (first | exact Take.head | apply Take.tail)), H.rd (s := p) (by repeat (first | exact Take.head | apply Take.tail)) int_len⟩ ?_
        (try simp only [Act.put, List.setIfInBounds_toArray, List.set_cons_succ, List.set_cons_zero])
        refine takeL (i := 5) rfl (.there (.there (.there (.there (.there .here))))) (by kernel_rfl) (by kernel_rfl) (by kernel_rfl) (fun _ _ _ h => absurd h.1 (by simp)) (by kernel_rfl) (yields_val (v := (.int .i64 (p0.tmod 50))) rfl (fun _ => by go_simp)) ⟨H.rw_ (by repeat (first | exact Take.head | apply Take.tail)), H.rd (s := p) (by repeat (first | exact Take.head | apply Take.tail)) int_len⟩ ?_
        (try simp only [Act.put, List.setIfInBounds_toArray, List.set_cons_succ, List.set_cons_zero])
        refine takeL (i := 6) rfl (.there (.there (.there (.there (.there (.there .here)))))) (by kernel_rfl) (by kernel_rfl) (by kernel_rfl) (fun _ _ _ h => absurd h.1 (by simp)) (by kernel_rfl) (yields_val (v := (.int .i64 ((k : Int) + (p0.tmod 50)))) rfl (fun _ => by (first | (go_simp; done) | (go_simp; rw [HW.out]) | (rw [← HW.out]; go_simp; done) | (go_simp; omega) | (go_simp; simpa using HW.out)))) ⟨H.rw_ (by repeat (first | exact Take.head | apply Take.tail)), H.rd (s := p) (by repeat (first | exact Take.head | apply Take.tail)) int_len⟩ ?_
        (try simp only [Act.put, List.setIfInBounds_toArray, List.set_cons_succ, List.set_cons_zero])
        refine anyL_1 (i := 7) (by kernel_rfl) ?_
        refine wpOp_at rfl (.there (.there (.there (.there (.there (.there (.there .here))))))) rfl ?_
        refine wp_call_H Try.f15 rfl rfl Try.func15 (by kernel_rfl) rfl rfl (calls_ex (mkG_H H (saw_c g _ _ rfl _ (H.gown (by repeat (first | exact Take.head | apply Take.tail))).rd HZ.out))) ?_
        clear H
        rintro _ w ⟨g2, rfl, HG2, H⟩
        refine ⟨fun _ => ⟨H.rw_ (by repeat (first | exact Take.head | apply Take.tail)), H.rd (s := p) (by repeat (first | exact Take.head | apply Take.tail)) int_len⟩, ?_⟩
        (try simp only [Act.put, List.setIfInBounds_toArray, List.set_cons_succ, List.set_cons_zero])
        refine anyL_1 (i := 8) (by kernel_rfl) ?_
        refine wpOp_at rfl (.there (.there (.there (.there (.there (.there (.there (.there .here)))))))) rfl ?_
        refine wp_store_H rfl H rfl rfl (by repeat (first | (apply StoreAt.here; (first | exact CellsOf.agg | exact CellsOf.int | exact CellsOf.bool | exact CellsOf.slice | exact CellsOf.string | exact CellsOf.pointer | exact CellsOf.func); (repeat (first | exact SetsAt.nil | apply SetsAt.here | apply SetsAt.there)); exact rfl; exact rfl) | apply StoreAt.there)) ?_
        clear H
        intro w H
        refine ⟨fun hw => absurd rfl hw, ?_⟩
        (try simp only [Act.put, List.setIfInBounds_toArray, List.set_cons_succ, List.set_cons_zero])
        refine anyL_done (by kernel_rfl) ?_ _
        exact ⟨rfl, g2, HG2, H.pick (.cons (by repeat (first | exact Take.head | apply Take.tail)) (.cons (by repeat (first | exact Take.head | apply Take.tail)) (.cons (by repeat (first | exact Take.head | apply Take.tail)) (.cons (by repeat (first | exact Take.head | apply Take.tail)) .nil)))), by first | (simp only [puts_cons, puts_nil, Act.put, List.setIfInBounds_toArray, List.set_cons_succ, List.set_cons_zero]; done) | (simp only [puts_cons, puts_nil, Act.put, List.setIfInBounds_toArray, List.set_cons_succ, List.set_cons_zero]; rfl)⟩
      clear H
      rintro u w ⟨g2, HG2, H, rfl⟩
      simp only [puts_cons, puts_nil, Act.put, List.setIfInBounds_toArray, List.set_cons_succ, List.set_cons_zero]
      go_wp2
      go_roundw
      case rel => exact ⟨k + 1, g2, by omega, by go_num, Lib.hid (gbig_mm (sawM_big (GBig.m HZ.out) _) HG2), Lib.hid (by rw [HG2.out]; exact seen_step HS.out), H.pick (.cons (by repeat (first | exact Take.head | apply Take.tail)) (.cons (by repeat (first | exact Take.head | apply Take.tail)) (.cons (by repeat (first | exact Take.head | apply Take.tail)) .nil)))⟩
      case measure => simp [intOf]; omega
    · have hke : k = 45 := by omega
      subst hke
      have hS : g.seen.xs = seenTo (p0.tmod 50) 45 := HS.out
      have hs0 : 0 < g.seen.xs.length := by rw [hS]; simp [seenTo]
      have hs39 : 39 < g.seen.xs.length := by rw [hS]; simp [seenTo]
      have HLI : Hid ((g.seen.xs.length : Int) = 40) := Lib.hid (by rw [hS]; simp [seenTo])
      have HS0 : Hid (g.seen.xs[0]? = some (p0.tmod 50)) := Lib.hid (by rw [hS]; simp [seenTo])
      have HS39 : Hid (g.seen.xs[39]? = some (39 + p0.tmod 50)) := Lib.hid (by rw [hS]; simp [seenTo])
      clear hS
      go_wp2
      refine wp_cut (fun u a' w' => ∃ (_ : Unit), Hp W0 w' [.box bG 33 (garr g).toList, .gst g, .int p] ∧ a' = puts u [(23, .pointer (some ⟨bG, 14, none⟩)), (24, (.slice g.seen.A g.seen.xs.length g.seen.c)), (25, (.int .i64 (g.seen.xs.length : Int))), (26, (.bool true)), (27, (.bool true)), (28, .pointer (some ⟨bG, 14, none⟩)), (29, (.slice g.seen.A g.seen.xs.length g.seen.c)), (30, (.pointer (some ⟨ablk g.seen.A, aoff g.seen.A + 0 * 1, none⟩))), (31, (.int .i64 (p0.tmod 50))), (32, (.slice p.A p.xs.length p.c)), (33, (.pointer (some ⟨ablk p.A, aoff p.A + 0 * 1, none⟩))), (34, (.int .i64 p0)), (35, (.int .i64 (p0.tmod 50))), (36, (.bool true)), (37, (.bool true)), (38, (.bool true)), (39, .pointer (some ⟨bG, 14, none⟩)), (40, (.slice g.seen.A g.seen.xs.length g.seen.c)), (41, (.pointer (some ⟨ablk g.seen.A, aoff g.seen.A + 39 * 1, none⟩))), (42, (.int .i64 (39 + (p0.tmod 50)))), (43, (.slice p.A p.xs.length p.c)), (44, (.pointer (some ⟨ablk p.A, aoff p.A + 0 * 1, none⟩))), (45, (.int .i64 p0)), (46, (.int .i64 (p0.tmod 50))), (47, (.int .i64 (39 + (p0.tmod 50)))), (48, (.bool true)), (49, (.bool true)), (2, (.bool true))]) ?_ ?_
      · refine wp_region_held (S := (fun w' => Rw w' bG 33 (garr g) ∧ Rd icell 1 w' g.seen ∧ Rd icell 1 w' p)) (by kernel_rfl) ?_
        replace H := H.drew
        refine takeH (i := 0) rfl .here (by kernel_rfl) (by kernel_rfl) (by kernel_rfl) (fun _ _ _ h => absurd h.1 (by simp)) (yields_val (v := .pointer (some ⟨bG, 14, none⟩)) rfl (fun _ => by go_simp)) ⟨H.rw_ (by repeat (first | exact Take.head | apply Take.tail)), (H.gown (g := g) (by repeat (first | exact Take.head | apply Take.tail))).rd.seen, H.rd (s := p) (by repeat (first | exact Take.head | apply Take.tail)) int_len⟩ ?_
        (try simp only [Act.put, List.setIfInBounds_toArray, List.set_cons_succ, List.set_cons_zero])
        refine takeH (i := 1) rfl (.there .here) (by kernel_rfl) (by kernel_rfl) (by kernel_rfl) (fun _ _ _ h => absurd h.1 (by simp)) (yields_load1_R rfl rfl rfl (fun _ hS => hS.1) rfl) ⟨H.rw_ (by repeat (first | exact Take.head | apply Take.tail)), (H.gown (g := g) (by repeat (first | exact Take.head | apply Take.tail))).rd.seen, H.rd (s := p) (by repeat (first | exact Take.head | apply Take.tail)) int_len⟩ ?_
        (try simp only [Act.put, List.setIfInBounds_toArray, List.set_cons_succ, List.set_cons_zero])
        refine takeH (i := 2) rfl (.there (.there .here)) (by kernel_rfl) (by kernel_rfl) (by kernel_rfl) (fun _ _ _ h => absurd h.1 (by simp)) (yields_val (v := (.int .i64 (g.seen.xs.length : Int))) rfl (fun _ => by go_simp)) ⟨H.rw_ (by repeat (first | exact Take.head | apply Take.tail)), (H.gown (g := g) (by repeat (first | exact Take.head | apply Take.tail))).rd.seen, H.rd (s := p) (by repeat (first | exact Take.head | apply Take.tail)) int_len⟩ ?_
        (try simp only [Act.put, List.setIfInBounds_toArray, List.set_cons_succ, List.set_cons_zero])
        refine takeH (i := 3) rfl (.there (.there (.there .here))) (by kernel_rfl) (by kernel_rfl) (by kernel_rfl) (fun _ _ _ h => absurd h.1 (by simp)) (yields_val (v := (.bool true)) rfl (fun _ => by (first | (go_simp; done) | (go_simp; rw [HLI.out]) | (rw [← HLI.out]; go_simp; done) | (go_simp; omega) | (go_simp; simpa using HLI.out)))) ⟨H.rw_ (by repeat (first | exact Take.head | apply Take.tail)), (H.gown (g := g) (by repeat (first | exact Take.head | apply Take.tail))).rd.seen, H.rd (s := p) (by repeat (first | exact Take.head | apply Take.tail)) int_len⟩ ?_
        (try simp only [Act.put, List.setIfInBounds_toArray, List.set_cons_succ, List.set_cons_zero])
        refine takeH (i := 4) rfl (.there (.there (.there (.there .here)))) (by kernel_rfl) (by kernel_rfl) (by kernel_rfl) (fun _ _ _ h => absurd h.1 (by simp)) (yields_val (v := (.bool true)) rfl (fun _ => by go_simp)) ⟨H.rw_ (by repeat (first | exact Take.head | apply Take.tail)), (H.gown (g := g) (by repeat (first | exact Take.head | apply Take.tail))).rd.seen, H.rd (s := p) (by repeat (first | exact Take.head | apply Take.tail)) int_len⟩ ?_
        (try simp only [Act.put, List.setIfInBounds_toArray, List.set_cons_succ, List.set_cons_zero])
        refine takeH (i := 5) rfl (.there (.there (.there (.there (.there .here))))) (by kernel_rfl) (by kernel_rfl) (by kernel_rfl) (fun _ _ _ h => absurd h.1 (by simp)) (yields_val (v := .pointer (some ⟨bG, 14, none⟩)) rfl (fun _ => by go_simp)) ⟨H.rw_ (by repeat (first | exact Take.head | apply Take.tail)), (H.gown (g := g) (by repeat (first | exact Take.head | apply Take.tail))).rd.seen, H.rd (s := p) (by repeat (first | exact Take.head | apply Take.tail)) int_len⟩ ?_
        (try simp only [Act.put, List.setIfInBounds_toArray, List.set_cons_succ, List.set_cons_zero])
        refine takeH (i := 6) rfl (.there (.there (.there (.there (.there (.there .here)))))) (by kernel_rfl) (by kernel_rfl) (by kernel_rfl) (fun _ _ _ h => absurd h.1 (by simp)) (yields_load1_R rfl rfl rfl (fun _ hS => hS.1) rfl) ⟨H.rw_ (by repeat (first | exact Take.head | apply Take.tail)), (H.gown (g := g) (by repeat (first | exact Take.head | apply Take.tail))).rd.seen, H.rd (s := p) (by repeat (first | exact Take.head | apply Take.tail)) int_len⟩ ?_
        (try simp only [Act.put, List.setIfInBounds_toArray, List.set_cons_succ, List.set_cons_zero])
        refine takeH (i := 7) rfl (.there (.there (.there (.there (.there (.there (.there .here))))))) (by kernel_rfl) (by kernel_rfl) (by kernel_rfl) (fun _ _ _ h => absurd h.1 (by simp)) (yields_index_nn rfl rfl (k := 0) g.seen (fun _ hS => hS.2.1) rfl rfl rfl hs0) ⟨H.rw_ (by repeat (first | exact Take.head | apply Take.tail)), (H.gown (g := g) (by repeat (first | exact Take.head | apply Take.tail))).rd.seen, H.rd (s := p) (by repeat (first | exact Take.head | apply Take.tail)) int_len⟩ ?_
        (try simp only [Act.put, List.setIfInBounds_toArray, List.set_cons_succ, List.set_cons_zero])
        refine takeH (i := 8) rfl (.there (.there (.there (.there (.there (.there (.there (.there .here)))))))) (by kernel_rfl) (by kernel_rfl) (by kernel_rfl) (fun _ _ _ h => absurd h.1 (by simp)) (yields_load_rdd rfl rfl g.seen (fun _ hS => hS.2.1) rfl (p0.tmod 50) HS0.out (by first | exact rfl | exact (Nat.add_zero _).symm) rfl) ⟨H.rw_ (by repeat (first | exact Take.head | apply Take.tail)), (H.gown (g := g) (by repeat (first | exact Take.head | apply Take.tail))).rd.seen, H.rd (s := p) (by repeat (first | exact Take.head | apply Take.tail)) int_len⟩ ?_
        (try simp only [Act.put, List.setIfInBounds_toArray, List.set_cons_succ, List.set_cons_zero])
        refine takeH (i := 9) rfl (.there (.there (.there (.there (.there (.there (.there (.there (.there .here))))))))) (by kernel_rfl) (by kernel_rfl) (by kernel_rfl) (fun _ _ _ h => absurd h.1 (by simp)) (yields_val (v := (.slice p.A p.xs.length p.c)) rfl (fun _ => by go_simp)) ⟨H.rw_ (by repeat (first | exact Take.head | apply Take.tail)), (H.gown (g := g) (by repeat (first | exact Take.head | apply Take.tail))).rd.seen, H.rd (s := p) (by repeat (first | exact Take.head | apply Take.tail)) int_len⟩ ?_
        (try simp only [Act.put, List.setIfInBounds_toArray, List.set_cons_succ, List.set_cons_zero])
        refine takeH (i := 10) rfl (.there (.there (.there (.there (.there (.there (.there (.there (.there (.there .here)))))))))) (by kernel_rfl) (by kernel_rfl) (by kernel_rfl) (fun _ _ _ h => absurd h.1 (by simp)) (yields_index_nn rfl rfl (k := 0) p (fun _ hS => hS.2.2) rfl rfl rfl hp0) ⟨H.rw_ (by repeat (first | exact Take.head | apply Take.tail)), (H.gown (g := g) (by repeat (first | exact Take.head | apply Take.tail))).rd.seen, H.rd (s := p) (by repeat (first | exact Take.head | apply Take.tail)) int_len⟩ ?_
        (try simp only [Act.put, List.setIfInBounds_toArray, List.set_cons_succ, List.set_cons_zero])
        refine takeH (i := 11) rfl (.there (.there (.there (.there (.there (.there (.there (.there (.there (.there (.there .here))))))))))) (by kernel_rfl) (by kernel_rfl) (by kernel_rfl) (fun _ _ _ h => absurd h.1 (by simp)) (yields_load_rdd rfl rfl p (fun _ hS => hS.2.2) rfl p0 HP0.out (by first | exact rfl | exact (Nat.add_zero _).symm) rfl) ⟨H.rw_ (by repeat (first | exact Take.head | apply Take.tail)), (H.gown (g := g) (by repeat (first | exact Take.head | apply Take.tail))).rd.seen, H.rd (s := p) (by repeat (first | exact Take.head | apply Take.tail)) int_len⟩ ?_
        (try simp only [Act.put, List.setIfInBounds_toArray, List.set_cons_succ, List.set_cons_zero])
        refine takeH (i := 12) rfl (.there (.there (.there (.there (.there (.there (.there (.there (.there (.there (.there (.there .here)))))))))))) (by kernel_rfl) (by kernel_rfl) (by kernel_rfl) (fun _ _ _ h => absurd h.1 (by simp)) (yields_val (v := (.int .i64 (p0.tmod 50))) rfl (fun _ => by go_simp)) ⟨H.rw_ (by repeat (first | exact Take.head | apply Take.tail)), (H.gown (g := g) (by repeat (first | exact Take.head | apply Take.tail))).rd.seen, H.rd (s := p) (by repeat (first | exact Take.head | apply Take.tail)) int_len⟩ ?_
        (try simp only [Act.put, List.setIfInBounds_toArray, List.set_cons_succ, List.set_cons_zero])
        refine takeH (i := 13) rfl (.there (.there (.there (.there (.there (.there (.there (.there (.there (.there (.there (.there (.there .here))))))))))))) (by kernel_rfl) (by kernel_rfl) (by kernel_rfl) (fun _ _ _ h => absurd h.1 (by simp)) (yields_val (v := (.bool true)) rfl (fun _ => by go_simp)) ⟨H.rw_ (by repeat (first | exact Take.head | apply Take.tail)), (H.gown (g := g) (by repeat (first | exact Take.head | apply Take.tail))).rd.seen, H.rd (s := p) (by repeat (first | exact Take.head | apply Take.tail)) int_len⟩ ?_
        (try simp only [Act.put, List.setIfInBounds_toArray, List.set_cons_succ, List.set_cons_zero])
        refine takeH (i := 14) rfl (.there (.there (.there (.there (.there (.there (.there (.there (.there (.there (.there (.there (.there (.there .here)))))))))))))) (by kernel_rfl) (by kernel_rfl) (by kernel_rfl) (fun _ _ _ h => absurd h.1 (by simp)) (yields_val (v := (.bool true)) rfl (fun _ => by go_simp)) ⟨H.rw_ (by repeat (first | exact Take.head | apply Take.tail)), (H.gown (g := g) (by repeat (first | exact Take.head | apply Take.tail))).rd.seen, H.rd (s := p) (by repeat (first | exact Take.head | apply Take.tail)) int_len⟩ ?_
        (try simp only [Act.put, List.setIfInBounds_toArray, List.set_cons_succ, List.set_cons_zero])
        refine takeH (i := 15) rfl (.there (.there (.there (.there (.there (.there (.there (.there (.there (.there (.there (.there (.there (.there (.there .here))))))))))))))) (by kernel_rfl) (by kernel_rfl) (by kernel_rfl) (fun _ _ _ h => absurd h.1 (by simp)) (yields_val (v := (.bool true)) rfl (fun _ => by go_simp)) ⟨H.rw_ (by repeat (first | exact Take.head | apply Take.tail)), (H.gown (g := g) (by repeat (first | exact Take.head | apply Take.tail))).rd.seen, H.rd (s := p) (by repeat (first | exact Take.head | apply Take.tail)) int_len⟩ ?_
        (try simp only [Act.put, List.setIfInBounds_toArray, List.set_cons_succ, List.set_cons_zero])
        refine takeH (i := 16) rfl (.there (.there (.there (.there (.there (.there (.there (.there (.there (.there (.there (.there (.there (.there (.there (.there .here)))))))))))))))) (by kernel_rfl) (by kernel_rfl) (by kernel_rfl) (fun _ _ _ h => absurd h.1 (by simp)) (yields_val (v := .pointer (some ⟨bG, 14, none⟩)) rfl (fun _ => by go_simp)) ⟨H.rw_ (by repeat (first | exact Take.head | apply Take.tail)), (H.gown (g := g) (by repeat (first | exact Take.head | apply Take.tail))).rd.seen, H.rd (s := p) (by repeat (first | exact Take.head | apply Take.tail)) int_len⟩ ?_
        (try simp only [Act.put, List.setIfInBounds_toArray, List.set_cons_succ, List.set_cons_zero])
        refine takeH (i := 17) rfl (.there (.there (.there (.there (.there (.there (.there (.there (.there (.there (.there (.there (.there (.there (.there (.there (.there .here))))))))))))))))) (by kernel_rfl) (by kernel_rfl) (by kernel_rfl) (fun _ _ _ h => absurd h.1 (by simp)) (yields_load1_R rfl rfl rfl (fun _ hS => hS.1) rfl) ⟨H.rw_ (by repeat (first | exact Take.head | apply Take.tail)), (H.gown (g := g) (by repeat (first | exact Take.head | apply Take.tail))).rd.seen, H.rd (s := p) (by repeat (first | exact Take.head | apply Take.tail)) int_len⟩ ?_
        (try simp only [Act.put, List.setIfInBounds_toArray, List.set_cons_succ, List.set_cons_zero])
        refine takeH (i := 18) rfl (.there (.there (.there (.there (.there (.there (.there (.there (.there (.there (.there (.there (.there (.there (.there (.there (.there (.there .here)))))))))))))))))) (by kernel_rfl) (by kernel_rfl) (by kernel_rfl) (fun _ _ _ h => absurd h.1 (by simp)) (yields_index_nn rfl rfl (k := 39) g.seen (fun _ hS => hS.2.1) rfl rfl rfl hs39) ⟨H.rw_ (by repeat (first | exact Take.head | apply Take.tail)), (H.gown (g := g) (by repeat (first | exact Take.head | apply Take.tail))).rd.seen, H.rd (s := p) (by repeat (first | exact Take.head | apply Take.tail)) int_len⟩ ?_
        (try simp only [Act.put, List.setIfInBounds_toArray, List.set_cons_succ, List.set_cons_zero])
        refine takeH (i := 19) rfl (.there (.there (.there (.there (.there (.there (.there (.there (.there (.there (.there (.there (.there (.there (.there (.there (.there (.there (.there .here))))))))))))))))))) (by kernel_rfl) (by kernel_rfl) (by kernel_rfl) (fun _ _ _ h => absurd h.1 (by simp)) (yields_load_rdd rfl rfl g.seen (fun _ hS => hS.2.1) rfl (39 + (p0.tmod 50)) HS39.out (by first | exact rfl | exact (Nat.add_zero _).symm) rfl) ⟨H.rw_ (by repeat (first | exact Take.head | apply Take.tail)), (H.gown (g := g) (by repeat (first | exact Take.head | apply Take.tail))).rd.seen, H.rd (s := p) (by repeat (first | exact Take.head | apply Take.tail)) int_len⟩ ?_
        (try simp only [Act.put, List.setIfInBounds_toArray, List.set_cons_succ, List.set_cons_zero])
        refine takeH (i := 20) rfl (.there (.there (.there (.there (.there (.there (.there (.there (.there (.there (.there (.there (.there (.there (.there (.there (.there (.there (.there (.there .here)))))))))))))))))))) (by kernel_rfl) (by kernel_rfl) (by kernel_rfl) (fun _ _ _ h => absurd h.1 (by simp)) (yields_val (v := (.slice p.A p.xs.length p.c)) rfl (fun _ => by go_simp)) ⟨H.rw_ (by repeat (first | exact Take.head | apply Take.tail)), (H.gown (g := g) (by repeat (first | exact Take.head | apply Take.tail))).rd.seen, H.rd (s := p) (by repeat (first | exact Take.head | apply Take.tail)) int_len⟩ ?_
        (try simp only [Act.put, List.setIfInBounds_toArray, List.set_cons_succ, List.set_cons_zero])
        refine takeH (i := 21) rfl (.there (.there (.there (.there (.there (.there (.there (.there (.there (.there (.there (.there (.there (.there (.there (.there (.there (.there (.there (.there (.there .here))))))))))))))))))))) (by kernel_rfl) (by kernel_rfl) (by kernel_rfl) (fun _ _ _ h => absurd h.1 (by simp)) (yields_index_nn rfl rfl (k := 0) p (fun _ hS => hS.2.2) rfl rfl rfl hp0) ⟨H.rw_ (by repeat (first | exact Take.head | apply Take.tail)), (H.gown (g := g) (by repeat (first | exact Take.head | apply Take.tail))).rd.seen, H.rd (s := p) (by repeat (first | exact Take.head | apply Take.tail)) int_len⟩ ?_
        (try simp only [Act.put, List.setIfInBounds_toArray, List.set_cons_succ, List.set_cons_zero])
        refine takeH (i := 22) rfl (.there (.there (.there (.there (.there (.there (.there (.there (.there (.there (.there (.there (.there (.there (.there (.there (.there (.there (.there (.there (.there (.there .here)))))))))))))))))))))) (by kernel_rfl) (by kernel_rfl) (by kernel_rfl) (fun _ _ _ h => absurd h.1 (by simp)) (yields_load_rdd rfl rfl p (fun _ hS => hS.2.2) rfl p0 HP0.out (by first | exact rfl | exact (Nat.add_zero _).symm) rfl) ⟨H.rw_ (by repeat (first | exact Take.head | apply Take.tail)), (H.gown (g := g) (by repeat (first | exact Take.head | apply Take.tail))).rd.seen, H.rd (s := p) (by repeat (first | exact Take.head | apply Take.tail)) int_len⟩ ?_
        (try simp only [Act.put, List.setIfInBounds_toArray, List.set_cons_succ, List.set_cons_zero])
        refine takeH (i := 23) rfl (.there (.there (.there (.there (.there (.there (.there (.there (.there (.there (.there (.there (.there (.there (.there (.there (.there (.there (.there (.there (.there (.there (.there .here))))))))))))))))))))))) (by kernel_rfl) (by kernel_rfl) (by kernel_rfl) (fun _ _ _ h => absurd h.1 (by simp)) (yields_val (v := (.int .i64 (p0.tmod 50))) rfl (fun _ => by go_simp)) ⟨H.rw_ (by repeat (first | exact Take.head | apply Take.tail)), (H.gown (g := g) (by repeat (first | exact Take.head | apply Take.tail))).rd.seen, H.rd (s := p) (by repeat (first | exact Take.head | apply Take.tail)) int_len⟩ ?_
        (try simp only [Act.put, List.setIfInBounds_toArray, List.set_cons_succ, List.set_cons_zero])
        refine takeH (i := 24) rfl (.there (.there (.there (.there (.there (.there (.there (.there (.there (.there (.there (.there (.there (.there (.there (.there (.there (.there (.there (.there (.there (.there (.there (.there .here)))))))))))))))))))))))) (by kernel_rfl) (by kernel_rfl) (by kernel_rfl) (fun _ _ _ h => absurd h.1 (by simp)) (yields_val (v := (.int .i64 (39 + (p0.tmod 50)))) rfl (fun _ => by (first | (go_simp; done) | (go_simp; rw [HW39.out]) | (rw [← HW39.out]; go_simp; done) | (go_simp; omega) | (go_simp; simpa using HW39.out)))) ⟨H.rw_ (by repeat (first | exact Take.head | apply Take.tail)), (H.gown (g := g) (by repeat (first | exact Take.head | apply Take.tail))).rd.seen, H.rd (s := p) (by repeat (first | exact Take.head | apply Take.tail)) int_len⟩ ?_
        (try simp only [Act.put, List.setIfInBounds_toArray, List.set_cons_succ, List.set_cons_zero])
        refine takeH (i := 25) rfl (.there (.there (.there (.there (.there (.there (.there (.there (.there (.there (.there (.there (.there (.there (.there (.there (.there (.there (.there (.there (.there (.there (.there (.there (.there .here))))))))))))))))))))))))) (by kernel_rfl) (by kernel_rfl) (by kernel_rfl) (fun _ _ _ h => absurd h.1 (by simp)) (yields_val (v := (.bool true)) rfl (fun _ => by go_simp)) ⟨H.rw_ (by repeat (first | exact Take.head | apply Take.tail)), (H.gown (g := g) (by repeat (first | exact Take.head | apply Take.tail))).rd.seen, H.rd (s := p) (by repeat (first | exact Take.head | apply Take.tail)) int_len⟩ ?_
        (try simp only [Act.put, List.setIfInBounds_toArray, List.set_cons_succ, List.set_cons_zero])
        refine takeH (i := 26) rfl (.there (.there (.there (.there (.there (.there (.there (.there (.there (.there (.there (.there (.there (.there (.there (.there (.there (.there (.there (.there (.there (.there (.there (.there (.there (.there .here)))))))))))))))))))))))))) (by kernel_rfl) (by kernel_rfl) (by kernel_rfl) (fun _ _ _ h => absurd h.1 (by simp)) (yields_val (v := (.bool true)) rfl (fun _ => by go_simp)) ⟨H.rw_ (by repeat (first | exact Take.head | apply Take.tail)), (H.gown (g := g) (by repeat (first | exact Take.head | apply Take.tail))).rd.seen, H.rd (s := p) (by repeat (first | exact Take.head | apply Take.tail)) int_len⟩ ?_
        (try simp only [Act.put, List.setIfInBounds_toArray, List.set_cons_succ, List.set_cons_zero])
        refine takeH (i := 27) rfl (.there (.there (.there (.there (.there (.there (.there (.there (.there (.there (.there (.there (.there (.there (.there (.there (.there (.there (.there (.there (.there (.there (.there (.there (.there (.there (.there .here))))))))))))))))))))))))))) (by kernel_rfl) (by kernel_rfl) (by kernel_rfl) (fun _ _ _ h => absurd h.1 (by simp)) (yields_val (v := (.bool true)) rfl (fun _ => by go_simp)) ⟨H.rw_ (by repeat (first | exact Take.head | apply Take.tail)), (H.gown (g := g) (by repeat (first | exact Take.head | apply Take.tail))).rd.seen, H.rd (s := p) (by repeat (first | exact Take.head | apply Take.tail)) int_len⟩ ?_
        (try simp only [Act.put, List.setIfInBounds_toArray, List.set_cons_succ, List.set_cons_zero])
        refine wpAnyH_done (by kernel_rfl) ?_ _
        exact ⟨rfl, (), H.pick (.cons (by repeat (first | exact Take.head | apply Take.tail)) (.cons (by repeat (first | exact Take.head | apply Take.tail)) (.cons (by repeat (first | exact Take.head | apply Take.tail)) .nil))), by first | (simp only [puts_cons, puts_nil, Act.put, List.setIfInBounds_toArray, List.set_cons_succ, List.set_cons_zero]; done) | (simp only [puts_cons, puts_nil, Act.put, List.setIfInBounds_toArray, List.set_cons_succ, List.set_cons_zero]; rfl)⟩
      clear H
      rintro u w ⟨_, H, rfl⟩
      simp only [puts_cons, puts_nil, Act.put, List.setIfInBounds_toArray, List.set_cons_succ, List.set_cons_zero]
      go_wp2
      go_ret
      exact ⟨rfl, H.below⟩
end Go.Proofs.Ytedjbholpdinkaa
