/- Contracts of Posts, PostedTo, Runnable and SeenOf, of the program and of the reference. No condition but that the arguments lie in memory. -/
import Derived.Test.YtaafnenmdombiaaBp
import Derived.Test.YtaafnenmdombiaaOk4
namespace Go.Proofs.Ytaafnenmdombiaa
set_option linter.unusedSimpArgs false
set_option linter.unusedVariables false
open Go.RowKit
def postsM (c : Ctl) (n : Int) : Bool := ctlOkM c && inB n 0 7 && (bits .and .i64 (c.post / 2 ^ n.toNat) 1 == 1)
/-- The numbers of those that have it. -/
def idxFrom {α : Type} (p : α → Bool) (k : Nat) : List α → List Int
  | [] => []
  | y :: l => (if p y then [(k : Int)] else []) ++ idxFrom p (k + 1) l
theorem idxFrom_append {α : Type} (p : α → Bool) (k : Nat) (l : List α) (y : α) : idxFrom p k (l ++ [y]) = idxFrom p k l ++ (if p y then [((k + l.length : Nat) : Int)] else []) := by
  induction l generalizing k with
  | nil => simp [idxFrom]
  | cons x l ih => simp only [List.cons_append, idxFrom, ih, List.append_assoc, List.length_cons]; rw [show k + 1 + l.length = k + (l.length + 1) by omega]
theorem idx_true {α : Type} {p : α → Bool} {l : List α} {k : Nat} {y : α} {c : List Int} (h : c = idxFrom p 0 (l.take k)) (hy : l[k]? = some y) (hp : p y = true) : c ++ [(k : Int)] = idxFrom p 0 (l.take (k + 1)) := by
  have hk : k < l.length := (List.getElem?_eq_some_iff.1 hy).1
  rw [List.take_add_one, hy, Option.toList_some, idxFrom_append, hp, ← h, List.length_take, Nat.min_eq_left (by omega)]; simp
theorem idx_false {α : Type} {p : α → Bool} {l : List α} {k : Nat} {y : α} {c : List Int} (h : c = idxFrom p 0 (l.take k)) (hy : l[k]? = some y) (hp : p y = false) : c = idxFrom p 0 (l.take (k + 1)) := by
  rw [List.take_add_one, hy, Option.toList_some, idxFrom_append, hp, ← h]; simp
theorem idx_len {α : Type} (p : α → Bool) (k : Nat) (l : List α) : (idxFrom p k l).length ≤ l.length := by
  induction l generalizing k with
  | nil => simp [idxFrom]
  | cons x l ih => have := ih (k + 1); simp only [idxFrom, List.length_append, List.length_cons]; split <;> simp <;> omega
section
variable {P : Program} {ops : Array Oper} {rest : List Oper} {o : Oper} {a : Act} {w0 w : World} {L L' : List En} {Q : Go.Exit → Act → World → Prop} {α : Type} {enc : α → List Value} {sz e : Nat}
/-- A struct within an element is read; its place said apart. -/
theorem wpList_loads_at (hgd : Region.wanted o (yielded ops a.tmps) = true) {ty : TypeId} {x : Operand} (ho : o.op = .load ty x) (s : Sl α) (hs : Rd enc sz w s) {q : Nat} (hx : a.eval x = .pointer (some ⟨ablk s.A, q, none⟩)) {n : Nat} [hS : TyA P ty n] {k : Nat} (y : α) (hk : s.xs[k]? = some y) {j : Nat} (hq : q = aoff s.A + k * sz + j) {vs : List Value} (hv : GetsAt (enc y) j n vs)
    (h : wpList P ops Q rest (a.put o.dst (.agg vs.toArray)) w) : wpList P ops Q (o :: rest) a w := by
  subst hq
  exact wp_of_run hgd ho (by rw [hx]; exact run_loads_rd hs hS hk hv) h
end
def postedM (m : MB) (n : Int) : List Int := idxFrom (fun g => postsM g.ctl n) 0 m.guests
theorem idx_map {α β : Type} (p : β → Bool) (f : α → β) (k : Nat) (l : List α) : idxFrom (fun x => p (f x)) k l = idxFrom p k (l.map f) := by
  induction l generalizing k with
  | nil => rfl
  | cons x l ih => simp only [idxFrom, List.map_cons, ih]
set_option linter.unusedSimpArgs false in
set_option linter.unusedVariables false in
set_option maxRecDepth 100000 in
set_option maxHeartbeats 4000000 in
theorem posts_c (c : Ctl) (n : Int) (W0 : World) : Calls Try.prog 45 #[c.val, .int .i64 n] W0 fun e w' => e = .returned (.bool (postsM c n)) ∧ Hp W0 w' [] := by
  cases e1 : ctlOkM c <;> cases e2 : inB n 0 7
  all_goals
    try (have hn : 0 ≤ n ∧ n ≤ 7 := by simpa [inB] using e2)
    try obtain ⟨hn0, hn7⟩ := hn
    have H := Hp.start W0
    go_enter Try.func45, Try.ntmps45
    go_wp2_with (first
      | go_skip
      | ((with_reducible refine at_box ?_); first | (refine wpList_box_H rfl rfl H rfl (by first | exact CellsOf.agg | exact CellsOf.int | exact CellsOf.bool | exact CellsOf.slice | exact CellsOf.string | exact CellsOf.pointer | exact CellsOf.func) ?_; clear H; intro bB w H))
      | ((with_reducible refine at_alloc ?_); first | (refine wpList_alloc_H rfl rfl H ?_; clear H; intro b w H))
      | ((with_reducible refine at_load ?_); first | (refine wpList_load_H rfl rfl H rfl (by repeat (first | exact LoadAt.here rfl | apply LoadAt.there)) ?_) | (refine wpList_loads_H rfl rfl H rfl (by repeat (first | (apply LoadsAt.here; repeat (first | exact GetsAt.nil | apply GetsAt.here | apply GetsAt.there)) | apply LoadsAt.there)) ?_))
      | ((with_reducible refine at_store ?_); first | (refine wpList_store_H rfl rfl H rfl rfl (by repeat (first | (apply StoreAt.here; (first | exact CellsOf.agg | exact CellsOf.int | exact CellsOf.bool | exact CellsOf.slice | exact CellsOf.string | exact CellsOf.pointer | exact CellsOf.func); (repeat (first | exact SetsAt.nil | apply SetsAt.here | apply SetsAt.there)); exact rfl; exact rfl) | apply StoreAt.there)) ?_; clear H; intro w H))
      | (go_at_call 70; refine (ctlOk_c c _).mono ?_; rintro e w ⟨he, hb⟩; rw [e1] at he; subst he; replace H := H.still hb; clear hb)
      | (go_at_call 31; refine (within_any _ _ _ _).mono ?_; rintro e w' ⟨he, hw⟩; subst hw; rw [e2] at he; subst he))
    all_goals (go_ret; exact ⟨ret_bool (by simp [postsM, e1, e2]), H.pick .nil⟩)
set_option linter.unusedSimpArgs false in
set_option linter.unusedVariables false in
set_option maxRecDepth 100000 in
set_option maxHeartbeats 4000000 in
theorem specPosts_c (c : Ctl) (n : Int) (W0 : World) : Calls Try.prog 48 #[c.val, .int .i64 n] W0 fun e w' => e = .returned (.bool (postsM c n)) ∧ Hp W0 w' [] := by
  cases e1 : ctlOkM c <;> cases e2 : inB n 0 7
  all_goals
    try (have hn : 0 ≤ n ∧ n ≤ 7 := by simpa [inB] using e2)
    try obtain ⟨hn0, hn7⟩ := hn
    have H := Hp.start W0
    go_enter Try.func48, Try.ntmps48
    go_wp2_with (first
      | go_skip
      | ((with_reducible refine at_box ?_); first | (refine wpList_box_H rfl rfl H rfl (by first | exact CellsOf.agg | exact CellsOf.int | exact CellsOf.bool | exact CellsOf.slice | exact CellsOf.string | exact CellsOf.pointer | exact CellsOf.func) ?_; clear H; intro bB w H))
      | ((with_reducible refine at_alloc ?_); first | (refine wpList_alloc_H rfl rfl H ?_; clear H; intro b w H))
      | ((with_reducible refine at_load ?_); first | (refine wpList_load_H rfl rfl H rfl (by repeat (first | exact LoadAt.here rfl | apply LoadAt.there)) ?_) | (refine wpList_loads_H rfl rfl H rfl (by repeat (first | (apply LoadsAt.here; repeat (first | exact GetsAt.nil | apply GetsAt.here | apply GetsAt.there)) | apply LoadsAt.there)) ?_))
      | ((with_reducible refine at_store ?_); first | (refine wpList_store_H rfl rfl H rfl rfl (by repeat (first | (apply StoreAt.here; (first | exact CellsOf.agg | exact CellsOf.int | exact CellsOf.bool | exact CellsOf.slice | exact CellsOf.string | exact CellsOf.pointer | exact CellsOf.func); (repeat (first | exact SetsAt.nil | apply SetsAt.here | apply SetsAt.there)); exact rfl; exact rfl) | apply StoreAt.there)) ?_; clear H; intro w H))
      | (go_at_call 73; refine (specCtlOk_c c _).mono ?_; rintro e w ⟨he, hb⟩; rw [e1] at he; subst he; replace H := H.still hb; clear hb)
      | (go_at_call 35; refine (in_any _ _ _ _).mono ?_; rintro e w' ⟨he, hw⟩; subst hw; rw [e2] at he; subst he))
    all_goals (go_ret; exact ⟨ret_bool (by simp [postsM, e1, e2]), H.pick .nil⟩)
set_option linter.unusedSimpArgs false in
set_option linter.unusedVariables false in
set_option maxRecDepth 100000 in
set_option maxHeartbeats 4000000 in
theorem postedTo_c (B : BV) (n : Int) (W0 : World) (R : BRd W0 B) (Z : B.gs.xs.length ≤ 4194304) : Calls Try.prog 17 #[B.val, .int .i64 n] W0 fun e w' => ∃ c : Sl Int, e = .returned (.slice c.A c.xs.length c.c) ∧ c.xs = postedM B.m n ∧ Hp W0 w' [.int c] := by
  have H := Hp.start W0
  go_enter Try.func17, Try.ntmps17
  go_wp2_with (first
    | go_skip
    | ((with_reducible refine at_box ?_); first | (refine wpList_box_H rfl rfl H rfl (by first | exact CellsOf.agg | exact CellsOf.int | exact CellsOf.bool | exact CellsOf.slice | exact CellsOf.string | exact CellsOf.pointer | exact CellsOf.func) ?_; clear H; intro bB w H))
    | ((with_reducible refine at_alloc ?_); first | (refine wpList_alloc_H rfl rfl H ?_; clear H; intro b w H))
    | ((with_reducible refine at_load ?_); first | (refine wpList_load_H rfl rfl H rfl (by repeat (first | exact LoadAt.here rfl | apply LoadAt.there)) ?_) | (refine wpList_loads_H rfl rfl H rfl (by repeat (first | (apply LoadsAt.here; repeat (first | exact GetsAt.nil | apply GetsAt.here | apply GetsAt.there)) | apply LoadsAt.there)) ?_))
    | ((with_reducible refine at_store ?_); first | (refine wpList_store_H rfl rfl H rfl rfl (by repeat (first | (apply StoreAt.here; (first | exact CellsOf.agg | exact CellsOf.int | exact CellsOf.bool | exact CellsOf.slice | exact CellsOf.string | exact CellsOf.pointer | exact CellsOf.func); (repeat (first | exact SetsAt.nil | apply SetsAt.here | apply SetsAt.there)); exact rfl; exact rfl) | apply StoreAt.there)) ?_; clear H; intro w H))
    | ((with_reducible refine at_slice ?_); first | (refine wpList_nil_H rfl rfl H ?_; clear H; intro bc w H)))
  go_loopw [5, 12] (fun ov i wr => ∃ (k : Nat) (c : Sl Int), k ≤ B.gs.xs.length ∧ i = .int .i64 k ∧ ov = .slice c.A c.xs.length c.c ∧ c.xs.length ≤ k ∧ c.xs = idxFrom (fun g : GV => postsM g.m.ctl n) 0 (B.gs.xs.take k) ∧ Hp W0 wr [.int c, .box bB 28 (barr B).toList]) (fun _ i _ => B.gs.xs.length - (intOf i).toNat)
  case atStart => exact ⟨0, ⟨some ⟨bc, 0, none⟩, 0, []⟩, by omega, rfl, rfl, by simp, by simp [idxFrom], H.pick (.cons (by repeat (first | exact Take.head | apply Take.tail)) (.cons (by repeat (first | exact Take.head | apply Take.tail)) .nil))⟩
  case round =>
    clear H
    obtain ⟨k, c, hk0, rfl, rfl, hcl, hcx, H⟩ := hrel
    have HC := Lib.hid hcx; have HL := Lib.hid hcl; clear hcx hcl
    by_cases hk : k < B.gs.xs.length
    · obtain ⟨y, hy0⟩ : ∃ y, B.gs.xs[k]? = some y := ⟨_, List.getElem?_eq_getElem hk⟩
      have HY := Lib.hid hy0; clear hy0
      cases hp : (fun g : GV => postsM g.m.ctl n) y
      · go_wp2_with (first
          | go_skip
          | ((with_reducible refine at_box ?_); first | (refine wpList_box_H rfl rfl H rfl (by first | exact CellsOf.agg | exact CellsOf.int | exact CellsOf.bool | exact CellsOf.slice | exact CellsOf.string | exact CellsOf.pointer | exact CellsOf.func) ?_; clear H; intro b w H))
          | ((with_reducible refine at_alloc ?_); first | (refine wpList_alloc_H rfl rfl H ?_; clear H; intro b w H))
          | ((with_reducible refine at_load ?_); first | (refine wpList_loads_rd rfl rfl B.gs (R.gs.at_ H) rfl y HY.out (by repeat (first | exact GetsAt.nil | apply GetsAt.here | apply GetsAt.there)) ?_) | (refine wpList_load_H rfl rfl H rfl (by repeat (first | exact LoadAt.here rfl | apply LoadAt.there)) ?_) | (refine wpList_loads_H rfl rfl H rfl (by repeat (first | (apply LoadsAt.here; repeat (first | exact GetsAt.nil | apply GetsAt.here | apply GetsAt.there)) | apply LoadsAt.there)) ?_))
          | ((with_reducible refine at_store ?_); first | (refine wpList_store_H rfl rfl H rfl rfl (by repeat (first | (apply StoreAt.here; (first | exact CellsOf.agg | exact CellsOf.int | exact CellsOf.bool | exact CellsOf.slice | exact CellsOf.string | exact CellsOf.pointer | exact CellsOf.func); (repeat (first | exact SetsAt.nil | apply SetsAt.here | apply SetsAt.there)); exact rfl; exact rfl) | apply StoreAt.there)) ?_; clear H; intro w H))
          | ((with_reducible refine at_index ?_); first | (refine wpList_index_n rfl rfl B.gs (R.gs.at_ H) rfl rfl rfl hk ?_))
          | ((with_reducible refine at_slice ?_); first | (refine wpList_one_H rfl rfl H (k : Int) rfl (by first | exact CellsOf.agg | exact CellsOf.int | exact CellsOf.bool | exact CellsOf.slice | exact CellsOf.string | exact CellsOf.pointer | exact CellsOf.func) rfl (by decide) ?_; clear H; intro bl w H))
          | ((with_reducible refine at_append ?_); first | (refine wpList_append_H rfl rfl H c (⟨some ⟨bl, 0, none⟩, 1, [(k : Int)]⟩ : Sl Int) rfl rfl (by repeat (first | exact Take.head | apply Take.tail)) (H.rd (by repeat (first | exact Take.head | apply Take.tail)) int_len) (by have := HL.out; simp only [List.length_cons, List.length_nil]; omega) (by decide) ?_; clear H; intro c2 w HX H))
          | (go_at_call 45; refine (posts_c y.ctl n _).mono ?_; rintro e w ⟨he, K⟩; rw [show postsM y.ctl n = _ from hp] at he; subst he; replace H := H.add_all K; clear K))
        go_roundw
        case rel => exact ⟨k + 1, c, by omega, by go_num, rfl, by have := HL.out; omega, idx_false HC.out HY.out hp, H.pick (.cons (by repeat (first | exact Take.head | apply Take.tail)) (.cons (by repeat (first | exact Take.head | apply Take.tail)) .nil))⟩
        case measure => simp [intOf]; omega
      · go_wp2_with (first
          | go_skip
          | ((with_reducible refine at_box ?_); first | (refine wpList_box_H rfl rfl H rfl (by first | exact CellsOf.agg | exact CellsOf.int | exact CellsOf.bool | exact CellsOf.slice | exact CellsOf.string | exact CellsOf.pointer | exact CellsOf.func) ?_; clear H; intro b w H))
          | ((with_reducible refine at_alloc ?_); first | (refine wpList_alloc_H rfl rfl H ?_; clear H; intro b w H))
          | ((with_reducible refine at_load ?_); first | (refine wpList_loads_rd rfl rfl B.gs (R.gs.at_ H) rfl y HY.out (by repeat (first | exact GetsAt.nil | apply GetsAt.here | apply GetsAt.there)) ?_) | (refine wpList_load_H rfl rfl H rfl (by repeat (first | exact LoadAt.here rfl | apply LoadAt.there)) ?_) | (refine wpList_loads_H rfl rfl H rfl (by repeat (first | (apply LoadsAt.here; repeat (first | exact GetsAt.nil | apply GetsAt.here | apply GetsAt.there)) | apply LoadsAt.there)) ?_))
          | ((with_reducible refine at_store ?_); first | (refine wpList_store_H rfl rfl H rfl rfl (by repeat (first | (apply StoreAt.here; (first | exact CellsOf.agg | exact CellsOf.int | exact CellsOf.bool | exact CellsOf.slice | exact CellsOf.string | exact CellsOf.pointer | exact CellsOf.func); (repeat (first | exact SetsAt.nil | apply SetsAt.here | apply SetsAt.there)); exact rfl; exact rfl) | apply StoreAt.there)) ?_; clear H; intro w H))
          | ((with_reducible refine at_index ?_); first | (refine wpList_index_n rfl rfl B.gs (R.gs.at_ H) rfl rfl rfl hk ?_))
          | ((with_reducible refine at_slice ?_); first | (refine wpList_one_H rfl rfl H (k : Int) rfl (by first | exact CellsOf.agg | exact CellsOf.int | exact CellsOf.bool | exact CellsOf.slice | exact CellsOf.string | exact CellsOf.pointer | exact CellsOf.func) rfl (by decide) ?_; clear H; intro bl w H))
          | ((with_reducible refine at_append ?_); first | (refine wpList_append_H rfl rfl H c (⟨some ⟨bl, 0, none⟩, 1, [(k : Int)]⟩ : Sl Int) rfl rfl (by repeat (first | exact Take.head | apply Take.tail)) (H.rd (by repeat (first | exact Take.head | apply Take.tail)) int_len) (by have := HL.out; simp only [List.length_cons, List.length_nil]; omega) (by decide) ?_; clear H; intro c2 w HX H))
          | (go_at_call 45; refine (posts_c y.ctl n _).mono ?_; rintro e w ⟨he, K⟩; rw [show postsM y.ctl n = _ from hp] at he; subst he; replace H := H.add_all K; clear K))
        go_roundw
        case rel => exact ⟨k + 1, c2, by omega, by go_num, rfl, by have := HL.out; rw [HX.out]; simp; omega, by rw [HX.out]; exact idx_true HC.out HY.out hp, H.pick (.cons (by repeat (first | exact Take.head | apply Take.tail)) (.cons (by repeat (first | exact Take.head | apply Take.tail)) .nil))⟩
        case measure => simp [intOf]; omega
    · have hke : k = B.gs.xs.length := by omega
      subst hke
      go_wp2_with (first
        | go_skip
        | ((with_reducible refine at_box ?_); first | (refine wpList_box_H rfl rfl H rfl (by first | exact CellsOf.agg | exact CellsOf.int | exact CellsOf.bool | exact CellsOf.slice | exact CellsOf.string | exact CellsOf.pointer | exact CellsOf.func) ?_; clear H; intro b w H))
        | ((with_reducible refine at_alloc ?_); first | (refine wpList_alloc_H rfl rfl H ?_; clear H; intro b w H))
        | ((with_reducible refine at_load ?_); first | (refine wpList_load_H rfl rfl H rfl (by repeat (first | exact LoadAt.here rfl | apply LoadAt.there)) ?_) | (refine wpList_loads_H rfl rfl H rfl (by repeat (first | (apply LoadsAt.here; repeat (first | exact GetsAt.nil | apply GetsAt.here | apply GetsAt.there)) | apply LoadsAt.there)) ?_))
        | ((with_reducible refine at_store ?_); first | (refine wpList_store_H rfl rfl H rfl rfl (by repeat (first | (apply StoreAt.here; (first | exact CellsOf.agg | exact CellsOf.int | exact CellsOf.bool | exact CellsOf.slice | exact CellsOf.string | exact CellsOf.pointer | exact CellsOf.func); (repeat (first | exact SetsAt.nil | apply SetsAt.here | apply SetsAt.there)); exact rfl; exact rfl) | apply StoreAt.there)) ?_; clear H; intro w H)))
      go_ret
      have hc := HC.out
      rw [List.take_length] at hc
      refine ⟨c, rfl, ?_, H.pick (.cons (by repeat (first | exact Take.head | apply Take.tail)) .nil)⟩
      rw [hc]; exact idx_map (fun g : MG => postsM g.ctl n) GV.m 0 _
set_option linter.unusedSimpArgs false in
set_option linter.unusedVariables false in
set_option maxRecDepth 100000 in
set_option maxHeartbeats 4000000 in
theorem specPostedTo_c (B : BV) (n : Int) (W0 : World) (R : BRd W0 B) (Z : B.gs.xs.length ≤ 4194304) : Calls Try.prog 22 #[B.val, .int .i64 n] W0 fun e w' => ∃ c : Sl Int, e = .returned (.slice c.A c.xs.length c.c) ∧ c.xs = postedM B.m n ∧ Hp W0 w' [.int c] := by
  have H := Hp.start W0
  go_enter Try.func22, Try.ntmps22
  go_wp2_with (first
    | go_skip
    | ((with_reducible refine at_box ?_); first | (refine wpList_box_H rfl rfl H rfl (by first | exact CellsOf.agg | exact CellsOf.int | exact CellsOf.bool | exact CellsOf.slice | exact CellsOf.string | exact CellsOf.pointer | exact CellsOf.func) ?_; clear H; intro bB w H))
    | ((with_reducible refine at_alloc ?_); first | (refine wpList_alloc_H rfl rfl H ?_; clear H; intro b w H))
    | ((with_reducible refine at_load ?_); first | (refine wpList_load_H rfl rfl H rfl (by repeat (first | exact LoadAt.here rfl | apply LoadAt.there)) ?_) | (refine wpList_loads_H rfl rfl H rfl (by repeat (first | (apply LoadsAt.here; repeat (first | exact GetsAt.nil | apply GetsAt.here | apply GetsAt.there)) | apply LoadsAt.there)) ?_))
    | ((with_reducible refine at_store ?_); first | (refine wpList_store_H rfl rfl H rfl rfl (by repeat (first | (apply StoreAt.here; (first | exact CellsOf.agg | exact CellsOf.int | exact CellsOf.bool | exact CellsOf.slice | exact CellsOf.string | exact CellsOf.pointer | exact CellsOf.func); (repeat (first | exact SetsAt.nil | apply SetsAt.here | apply SetsAt.there)); exact rfl; exact rfl) | apply StoreAt.there)) ?_; clear H; intro w H))
    | ((with_reducible refine at_slice ?_); first | (refine wpList_nil_H rfl rfl H ?_; clear H; intro bc w H)))
  go_loopw [5, 6] (fun ov i wr => ∃ (k : Nat) (c : Sl Int), k ≤ B.gs.xs.length ∧ i = .int .i64 k ∧ ov = .slice c.A c.xs.length c.c ∧ c.xs.length ≤ k ∧ c.xs = idxFrom (fun g : GV => postsM g.m.ctl n) 0 (B.gs.xs.take k) ∧ Hp W0 wr [.int c, .box bB 28 (barr B).toList]) (fun _ i _ => B.gs.xs.length - (intOf i).toNat)
  case atStart => exact ⟨0, ⟨some ⟨bc, 0, none⟩, 0, []⟩, by omega, rfl, rfl, by simp, by simp [idxFrom], H.pick (.cons (by repeat (first | exact Take.head | apply Take.tail)) (.cons (by repeat (first | exact Take.head | apply Take.tail)) .nil))⟩
  case round =>
    clear H
    obtain ⟨k, c, hk0, rfl, rfl, hcl, hcx, H⟩ := hrel
    have HC := Lib.hid hcx; have HL := Lib.hid hcl; clear hcx hcl
    by_cases hk : k < B.gs.xs.length
    · obtain ⟨y, hy0⟩ : ∃ y, B.gs.xs[k]? = some y := ⟨_, List.getElem?_eq_getElem hk⟩
      have HY := Lib.hid hy0; clear hy0
      cases hp : (fun g : GV => postsM g.m.ctl n) y
      · go_wp2_with (first
          | go_skip
          | ((with_reducible refine at_box ?_); first | (refine wpList_box_H rfl rfl H rfl (by first | exact CellsOf.agg | exact CellsOf.int | exact CellsOf.bool | exact CellsOf.slice | exact CellsOf.string | exact CellsOf.pointer | exact CellsOf.func) ?_; clear H; intro b w H))
          | ((with_reducible refine at_alloc ?_); first | (refine wpList_alloc_H rfl rfl H ?_; clear H; intro b w H))
          | ((with_reducible refine at_load ?_); first | (refine wpList_loads_at rfl rfl B.gs (R.gs.at_ H) rfl y HY.out (by exact rfl) (by repeat (first | exact GetsAt.nil | apply GetsAt.here | apply GetsAt.there)) ?_) | (refine wpList_load_H rfl rfl H rfl (by repeat (first | exact LoadAt.here rfl | apply LoadAt.there)) ?_) | (refine wpList_loads_H rfl rfl H rfl (by repeat (first | (apply LoadsAt.here; repeat (first | exact GetsAt.nil | apply GetsAt.here | apply GetsAt.there)) | apply LoadsAt.there)) ?_))
          | ((with_reducible refine at_store ?_); first | (refine wpList_store_H rfl rfl H rfl rfl (by repeat (first | (apply StoreAt.here; (first | exact CellsOf.agg | exact CellsOf.int | exact CellsOf.bool | exact CellsOf.slice | exact CellsOf.string | exact CellsOf.pointer | exact CellsOf.func); (repeat (first | exact SetsAt.nil | apply SetsAt.here | apply SetsAt.there)); exact rfl; exact rfl) | apply StoreAt.there)) ?_; clear H; intro w H))
          | ((with_reducible refine at_index ?_); first | (refine wpList_index_n rfl rfl B.gs (R.gs.at_ H) rfl rfl rfl hk ?_))
          | ((with_reducible refine at_slice ?_); first | (refine wpList_one_H rfl rfl H (k : Int) rfl (by first | exact CellsOf.agg | exact CellsOf.int | exact CellsOf.bool | exact CellsOf.slice | exact CellsOf.string | exact CellsOf.pointer | exact CellsOf.func) rfl (by decide) ?_; clear H; intro bl w H))
          | ((with_reducible refine at_append ?_); first | (refine wpList_append_H rfl rfl H c (⟨some ⟨bl, 0, none⟩, 1, [(k : Int)]⟩ : Sl Int) rfl rfl (by repeat (first | exact Take.head | apply Take.tail)) (H.rd (by repeat (first | exact Take.head | apply Take.tail)) int_len) (by have := HL.out; simp only [List.length_cons, List.length_nil]; omega) (by decide) ?_; clear H; intro c2 w HX H))
          | (go_at_call 48; refine (specPosts_c y.ctl n _).mono ?_; rintro e w ⟨he, K⟩; rw [show postsM y.ctl n = _ from hp] at he; subst he; replace H := H.add_all K; clear K))
        go_roundw
        case rel => exact ⟨k + 1, c, by omega, by go_num, rfl, by have := HL.out; omega, idx_false HC.out HY.out hp, H.pick (.cons (by repeat (first | exact Take.head | apply Take.tail)) (.cons (by repeat (first | exact Take.head | apply Take.tail)) .nil))⟩
        case measure => simp [intOf]; omega
      · go_wp2_with (first
          | go_skip
          | ((with_reducible refine at_box ?_); first | (refine wpList_box_H rfl rfl H rfl (by first | exact CellsOf.agg | exact CellsOf.int | exact CellsOf.bool | exact CellsOf.slice | exact CellsOf.string | exact CellsOf.pointer | exact CellsOf.func) ?_; clear H; intro b w H))
          | ((with_reducible refine at_alloc ?_); first | (refine wpList_alloc_H rfl rfl H ?_; clear H; intro b w H))
          | ((with_reducible refine at_load ?_); first | (refine wpList_loads_at rfl rfl B.gs (R.gs.at_ H) rfl y HY.out (by exact rfl) (by repeat (first | exact GetsAt.nil | apply GetsAt.here | apply GetsAt.there)) ?_) | (refine wpList_load_H rfl rfl H rfl (by repeat (first | exact LoadAt.here rfl | apply LoadAt.there)) ?_) | (refine wpList_loads_H rfl rfl H rfl (by repeat (first | (apply LoadsAt.here; repeat (first | exact GetsAt.nil | apply GetsAt.here | apply GetsAt.there)) | apply LoadsAt.there)) ?_))
          | ((with_reducible refine at_store ?_); first | (refine wpList_store_H rfl rfl H rfl rfl (by repeat (first | (apply StoreAt.here; (first | exact CellsOf.agg | exact CellsOf.int | exact CellsOf.bool | exact CellsOf.slice | exact CellsOf.string | exact CellsOf.pointer | exact CellsOf.func); (repeat (first | exact SetsAt.nil | apply SetsAt.here | apply SetsAt.there)); exact rfl; exact rfl) | apply StoreAt.there)) ?_; clear H; intro w H))
          | ((with_reducible refine at_index ?_); first | (refine wpList_index_n rfl rfl B.gs (R.gs.at_ H) rfl rfl rfl hk ?_))
          | ((with_reducible refine at_slice ?_); first | (refine wpList_one_H rfl rfl H (k : Int) rfl (by first | exact CellsOf.agg | exact CellsOf.int | exact CellsOf.bool | exact CellsOf.slice | exact CellsOf.string | exact CellsOf.pointer | exact CellsOf.func) rfl (by decide) ?_; clear H; intro bl w H))
          | ((with_reducible refine at_append ?_); first | (refine wpList_append_H rfl rfl H c (⟨some ⟨bl, 0, none⟩, 1, [(k : Int)]⟩ : Sl Int) rfl rfl (by repeat (first | exact Take.head | apply Take.tail)) (H.rd (by repeat (first | exact Take.head | apply Take.tail)) int_len) (by have := HL.out; simp only [List.length_cons, List.length_nil]; omega) (by decide) ?_; clear H; intro c2 w HX H))
          | (go_at_call 48; refine (specPosts_c y.ctl n _).mono ?_; rintro e w ⟨he, K⟩; rw [show postsM y.ctl n = _ from hp] at he; subst he; replace H := H.add_all K; clear K))
        go_roundw
        case rel => exact ⟨k + 1, c2, by omega, by go_num, rfl, by have := HL.out; rw [HX.out]; simp; omega, by rw [HX.out]; exact idx_true HC.out HY.out hp, H.pick (.cons (by repeat (first | exact Take.head | apply Take.tail)) (.cons (by repeat (first | exact Take.head | apply Take.tail)) .nil))⟩
        case measure => simp [intOf]; omega
    · have hke : k = B.gs.xs.length := by omega
      subst hke
      go_wp2_with (first
        | go_skip
        | ((with_reducible refine at_box ?_); first | (refine wpList_box_H rfl rfl H rfl (by first | exact CellsOf.agg | exact CellsOf.int | exact CellsOf.bool | exact CellsOf.slice | exact CellsOf.string | exact CellsOf.pointer | exact CellsOf.func) ?_; clear H; intro b w H))
        | ((with_reducible refine at_alloc ?_); first | (refine wpList_alloc_H rfl rfl H ?_; clear H; intro b w H))
        | ((with_reducible refine at_load ?_); first | (refine wpList_load_H rfl rfl H rfl (by repeat (first | exact LoadAt.here rfl | apply LoadAt.there)) ?_) | (refine wpList_loads_H rfl rfl H rfl (by repeat (first | (apply LoadsAt.here; repeat (first | exact GetsAt.nil | apply GetsAt.here | apply GetsAt.there)) | apply LoadsAt.there)) ?_))
        | ((with_reducible refine at_store ?_); first | (refine wpList_store_H rfl rfl H rfl rfl (by repeat (first | (apply StoreAt.here; (first | exact CellsOf.agg | exact CellsOf.int | exact CellsOf.bool | exact CellsOf.slice | exact CellsOf.string | exact CellsOf.pointer | exact CellsOf.func); (repeat (first | exact SetsAt.nil | apply SetsAt.here | apply SetsAt.there)); exact rfl; exact rfl) | apply StoreAt.there)) ?_; clear H; intro w H)))
      go_ret
      have hc := HC.out
      rw [List.take_length] at hc
      refine ⟨c, rfl, ?_, H.pick (.cons (by repeat (first | exact Take.head | apply Take.tail)) .nil)⟩
      rw [hc]; exact idx_map (fun g : MG => postsM g.ctl n) GV.m 0 _
end Go.Proofs.Ytaafnenmdombiaa
