/- Contracts of BareSteps, of the program and of the reference. No condition but that the arguments lie in memory. -/
import Derived.Test.YtjiiobliadeldaaStj
import Derived.Test.YtjiiobliadeldaaTb
namespace Go.Proofs.Ytjiiobliadeldaa
open Go.RowKit
attribute [local go_sem ↓] Go.wp_at_zero Go.wp_at_succ
def stepsM (m : MB) : List Int → MB
  | [] => m
  | g :: l => stepsM (stepM m g) l
def toldM (m : MB) : List Int → List Bool
  | [] => []
  | g :: l => stepOkM m g :: toldM (stepM m g) l
theorem stepsM_snoc (m : MB) (l : List Int) (g : Int) : stepsM m (l ++ [g]) = stepM (stepsM m l) g := by
  induction l generalizing m with
  | nil => rfl
  | cons x l ih => exact ih (stepM m x)
theorem toldM_snoc (m : MB) (l : List Int) (g : Int) : toldM m (l ++ [g]) = toldM m l ++ [stepOkM (stepsM m l) g] := by
  induction l generalizing m with
  | nil => rfl
  | cons x l ih => show stepOkM m x :: toldM (stepM m x) (l ++ [g]) = _; rw [ih (stepM m x)]; rfl
theorem toldM_len (m : MB) (l : List Int) : (toldM m l).length = l.length := by
  induction l generalizing m with
  | nil => rfl
  | cons x l ih => show (toldM (stepM m x) l).length + 1 = _; rw [ih]; rfl
theorem take_snocS {l : List Int} {k : Nat} {y : Int} (h : l[k]? = some y) : l.take (k + 1) = l.take k ++ [y] := by rw [List.take_add_one, h]; rfl
theorem stepsM_size (m : MB) (l : List Int) : (stepsM m l).size ≤ m.size ∨ (stepsM m l).size ≤ 1000 := by
  induction l generalizing m with
  | nil => left; exact Nat.le_refl _
  | cons x l ih =>
    rcases ih (stepM m x) with h | h
    · rcases stepM_size m x with h2 | h2
      · left; exact Nat.le_trans h h2
      · right; exact Nat.le_trans h h2
    · right; exact h
theorem stepsS_big {d : BV} {m : MB} {l : List Int} (h : Hid (d.m = stepsM m l)) (Z : m.size ≤ 4194304) : BBig d := by
  unfold BBig; rw [h.out]; rcases stepsM_size m l with h | h <;> omega
set_option linter.unusedSimpArgs false in
set_option linter.unusedVariables false in
set_option maxRecDepth 100000 in
set_option maxHeartbeats 4000000 in
theorem bareSteps_c (B : BV) (l : Sl Int) (W0 : World) (R : BRd W0 B) (Z : BBig B) (Rl : Rd icell 1 W0 l) (Zl : l.xs.length ≤ 1048576) : Calls Try.prog 22 #[B.val, .slice l.A l.xs.length l.c] W0 fun e w' => ∃ (d : BV) (t : Sl Bool), e = .returned (.tuple #[d.val, .slice t.A t.xs.length t.c]) ∧ d.m = stepsM B.m l.xs ∧ t.xs = toldM B.m l.xs ∧ Hp W0 w' [.bare d, .bools t] := by
  have H := Hp.start W0
  go_enter Try.func22, Try.ntmps22
  go_wp2_with (first
    | go_skip
    | ((with_reducible refine at_box ?_); first | (refine wpList_box_H (cs := (barr B).toList) rfl rfl H rfl CellsOf.agg ?_; clear H; intro bB w H) | (refine wpList_box_H rfl rfl H rfl (by first | exact CellsOf.agg | exact CellsOf.int | exact CellsOf.bool | exact CellsOf.slice | exact CellsOf.string | exact CellsOf.pointer | exact CellsOf.func) ?_; clear H; intro b w H))
    | ((with_reducible refine at_alloc ?_); first | ((with_reducible refine at_dst 4 ?_); refine wpList_alloc_H rfl rfl H ?_; clear H; intro bR w H) | ((with_reducible refine at_dst 6 ?_); refine wpList_alloc_H rfl rfl H ?_; clear H; intro bO w H) | (refine wpList_alloc_H rfl rfl H ?_; clear H; intro b w H))
    | ((with_reducible refine at_load ?_); first | (refine wpList_load_H rfl rfl H rfl (by repeat (first | exact LoadAt.here rfl | apply LoadAt.there)) ?_) | (refine wpList_loads_H rfl rfl H rfl (by repeat (first | (apply LoadsAt.here; repeat (first | exact GetsAt.nil | apply GetsAt.here | apply GetsAt.there)) | apply LoadsAt.there)) ?_))
    | ((with_reducible refine at_store ?_); first | (refine wpList_store_H rfl rfl H rfl rfl (by repeat (first | (apply StoreAt.here; (first | exact CellsOf.agg | exact CellsOf.int | exact CellsOf.bool | exact CellsOf.slice | exact CellsOf.string | exact CellsOf.pointer | exact CellsOf.func); (repeat (first | exact SetsAt.nil | apply SetsAt.here | apply SetsAt.there)); exact rfl; exact rfl) | apply StoreAt.there)) ?_; clear H; intro w H))
    | ((with_reducible refine at_slice ?_); first | (refine wpList_nil_H (enc := bcel) rfl rfl H ?_; clear H; intro bt w H))
    | (go_at_call 51; refine (copyBare_c B _ (R.at_ H) Z).mono ?_; rintro e w ⟨d, rfl, x1, K⟩; have HD := Lib.hid x1; clear x1; replace H := H.add_all K; clear K))
  go_loopw [7, 17] (fun tv i wr => ∃ (k : Nat) (d : BV) (t : Sl Bool), k ≤ l.xs.length ∧ i = .int .i64 k ∧ tv = .slice t.A t.xs.length t.c ∧ Hid (d.m = stepsM B.m (l.xs.take k)) ∧ Hid (t.xs = toldM B.m (l.xs.take k)) ∧ Hp W0 wr [.bare d, .bools t, .box bO 31 (barr d).toList, .box bR 31 [.slice none 0 0, .slice none 0 0, .slice none 0 0, .int .i64 0]]) (fun _ i _ => l.xs.length - (intOf i).toNat)
  case atStart => exact ⟨0, d, ⟨some ⟨bt, 0, none⟩, 0, []⟩, by omega, rfl, rfl, Lib.hid (by rw [HD.out]; rfl), Lib.hid rfl, H.pick (.cons (by repeat (first | exact Take.head | apply Take.tail)) (.cons (by repeat (first | exact Take.head | apply Take.tail)) (.cons (by repeat (first | exact Take.head | apply Take.tail)) (.cons (by repeat (first | exact Take.head | apply Take.tail)) .nil))))⟩
  case round =>
    clear H HD
    obtain ⟨k, d, t, hk0, rfl, rfl, HD, HT, H⟩ := hrel
    have ZD := Lib.hid (stepsS_big HD Z)
    by_cases hk : k < l.xs.length
    · obtain ⟨y, hy0⟩ : ∃ y, l.xs[k]? = some y := ⟨_, List.getElem?_eq_getElem hk⟩
      have HY := Lib.hid hy0; clear hy0
      have HTL : Hid (t.xs.length = k) := by show _ = _; rw [HT.out, toldM_len, List.length_take]; omega
      go_wp2_with (first
        | go_skip
        | ((with_reducible refine at_box ?_); first | (refine wpList_box_H rfl rfl H rfl (by first | exact CellsOf.agg | exact CellsOf.int | exact CellsOf.bool | exact CellsOf.slice | exact CellsOf.string | exact CellsOf.pointer | exact CellsOf.func) ?_; clear H; intro b w H))
        | ((with_reducible refine at_alloc ?_); first | ((with_reducible refine at_dst 10 ?_); refine wpList_alloc_H rfl rfl H ?_; clear H; intro bN w H) | (refine wpList_alloc_H rfl rfl H ?_; clear H; intro b w H))
        | ((with_reducible refine at_load ?_); first | (refine wpList_load_rd rfl rfl l (Rl.at_ H) rfl y HY.out rfl ?_) | (refine wpList_load_H rfl rfl H rfl (by repeat (first | exact LoadAt.here rfl | apply LoadAt.there)) ?_) | (refine wpList_loads_H rfl rfl H rfl (by repeat (first | (apply LoadsAt.here; repeat (first | exact GetsAt.nil | apply GetsAt.here | apply GetsAt.there)) | apply LoadsAt.there)) ?_))
        | ((with_reducible refine at_store ?_); first | (refine wpList_store_H rfl rfl H rfl rfl (by repeat (first | (apply StoreAt.here; (first | exact CellsOf.agg | exact CellsOf.int | exact CellsOf.bool | exact CellsOf.slice | exact CellsOf.string | exact CellsOf.pointer | exact CellsOf.func); (repeat (first | exact SetsAt.nil | apply SetsAt.here | apply SetsAt.there)); exact rfl; exact rfl) | apply StoreAt.there)) ?_; clear H; intro w H))
        | ((with_reducible refine at_index ?_); first | (refine wpList_index_n rfl rfl (k := k) l (Rl.at_ H) rfl rfl rfl hk ?_))
        | ((with_reducible refine at_slice ?_); first | (refine wpList_one_H rfl rfl H (stepOkM d.m y) rfl (by first | exact CellsOf.agg | exact CellsOf.int | exact CellsOf.bool | exact CellsOf.slice | exact CellsOf.string | exact CellsOf.pointer | exact CellsOf.func) rfl (by decide) ?_; clear H; intro bl w H))
        | ((with_reducible refine at_append ?_); first | (refine wpList_append_H rfl rfl H t (⟨some ⟨bl, 0, none⟩, 1, [stepOkM d.m y]⟩ : Sl Bool) rfl rfl (by repeat (first | exact Take.head | apply Take.tail)) (H.rd (by repeat (first | exact Take.head | apply Take.tail)) bool_len) (by have := HTL.out; simp only [List.length_cons, List.length_nil]; omega) (by decide) ?_; clear H; intro t2 w HX H))
        | (go_at_call 19; refine (bareStep_c d y _ (H.brd (b := d) (by repeat (first | exact Take.head | apply Take.tail))) ZD.out).mono ?_; rintro e w ⟨d2, rfl, x1, K⟩; have HD2 := Lib.hid x1; clear x1; replace H := H.add_all K; clear K))
      go_roundw
      case rel => exact ⟨k + 1, d2, t2, by omega, by go_num, rfl, Lib.hid (by rw [HD2.out, take_snocS HY.out, stepsM_snoc, HD.out]), Lib.hid (by rw [HX.out, take_snocS HY.out, toldM_snoc, HT.out, HD.out]), H.pick (.cons (by repeat (first | exact Take.head | apply Take.tail)) (.cons (by repeat (first | exact Take.head | apply Take.tail)) (.cons (by repeat (first | exact Take.head | apply Take.tail)) (.cons (by repeat (first | exact Take.head | apply Take.tail)) .nil))))⟩
      case measure => simp [intOf]; omega
    · have hke : k = l.xs.length := by omega
      subst hke
      go_wp2_with (first
        | go_skip
        | ((with_reducible refine at_box ?_); first | (refine wpList_box_H rfl rfl H rfl (by first | exact CellsOf.agg | exact CellsOf.int | exact CellsOf.bool | exact CellsOf.slice | exact CellsOf.string | exact CellsOf.pointer | exact CellsOf.func) ?_; clear H; intro b w H))
        | ((with_reducible refine at_alloc ?_); first | (refine wpList_alloc_H rfl rfl H ?_; clear H; intro b w H))
        | ((with_reducible refine at_load ?_); first | (refine wpList_load_H rfl rfl H rfl (by repeat (first | exact LoadAt.here rfl | apply LoadAt.there)) ?_) | (refine wpList_loads_H rfl rfl H rfl (by repeat (first | (apply LoadsAt.here; repeat (first | exact GetsAt.nil | apply GetsAt.here | apply GetsAt.there)) | apply LoadsAt.there)) ?_))
        | ((with_reducible refine at_store ?_); first | (refine wpList_store_H rfl rfl H rfl rfl (by repeat (first | (apply StoreAt.here; (first | exact CellsOf.agg | exact CellsOf.int | exact CellsOf.bool | exact CellsOf.slice | exact CellsOf.string | exact CellsOf.pointer | exact CellsOf.func); (repeat (first | exact SetsAt.nil | apply SetsAt.here | apply SetsAt.there)); exact rfl; exact rfl) | apply StoreAt.there)) ?_; clear H; intro w H)))
      refine bodyPost_ret (results_H2 rfl H rfl (by repeat (first | (apply LoadsAt.here; repeat (first | exact GetsAt.nil | apply GetsAt.here | apply GetsAt.there)) | apply LoadsAt.there))) rfl ⟨d, t, rfl, by rw [HD.out, List.take_length], by rw [HT.out, List.take_length], H.pick (.cons (by repeat (first | exact Take.head | apply Take.tail)) (.cons (by repeat (first | exact Take.head | apply Take.tail)) .nil))⟩
end Go.Proofs.Ytjiiobliadeldaa
