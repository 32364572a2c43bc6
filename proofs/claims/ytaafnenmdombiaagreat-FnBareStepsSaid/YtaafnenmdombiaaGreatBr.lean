/- Contracts of Posts, PostedTo, Runnable and SeenOf, of the program and of the reference. No condition but that the arguments lie in memory. -/
import Derived.Test.YtaafnenmdombiaaGreatBp
import Derived.Test.YtaafnenmdombiaaGreatOk4
namespace Go.Proofs.YtaafnenmdombiaaGreat
set_option linter.unusedSimpArgs false
set_option linter.unusedVariables false
set_option linter.unusedSimpArgs false
set_option linter.unusedVariables false
open Go.RowKit
/-- The numbers of those that have it. -/
def idxFrom {α : Type} (p : α → Bool) (k : Nat) : List α → List Int
  | [] => []
  | y :: l => (if p y then [(k : Int)] else []) ++ idxFrom p (k + 1) l
theorem idxFrom_append {α : Type} (p : α → Bool) (k : Nat) (l : List α) (y : α) : idxFrom p k (l ++ [y]) = idxFrom p k l ++ (if p y then [((k + l.length : Nat) : Int)] else []) := by
  induction l generalizing k with
  | nil => simp [idxFrom]
  | cons x l ih => simp only [List.cons_append, idxFrom, ih, List.append_assoc, List.length_cons]; rw [show k + 1 + l.length = k + (l.length + 1) by omega]
theorem idx_true {α : Type} {p : α → Bool} {l : List α} {k : Nat} {y : α} {c : List Int} (h : c = idxFrom p 0 (l.take k)) (hy : l[k]? = some y) (hp : p y = true) : c ++ [(k : Int)] = idxFrom p 0 (l.take (k + 1)) := by
  have hk : k < l.length := (List.getElem?_eq_some_iff.1 hy).1
  rw [List.take_add_one, hy, Option.toList_some, idxFrom_append, hp, ← h, List.length_take, Nat.min_eq_left (by omega)]; simp
theorem idx_false {α : Type} {p : α → Bool} {l : List α} {k : Nat} {y : α} {c : List Int} (h : c = idxFrom p 0 (l.take k)) (hy : l[k]? = some y) (hp : p y = false) : c = idxFrom p 0 (l.take (k + 1)) := by
  rw [List.take_add_one, hy, Option.toList_some, idxFrom_append, hp, ← h]; simp
theorem idx_len {α : Type} (p : α → Bool) (k : Nat) (l : List α) : (idxFrom p k l).length ≤ l.length := by
  induction l generalizing k with
  | nil => simp [idxFrom]
  | cons x l ih => have := ih (k + 1); simp only [idxFrom, List.length_append, List.length_cons]; split <;> simp <;> omega
section
variable {P : Program} {ops : Array Oper} {rest : List Oper} {o : Oper} {a : Act} {w0 w : World} {L L' : List En} {Q : Go.Exit → Act → World → Prop} {α : Type} {enc : α → List Value} {sz e : Nat}
end
def runM (l : List MG) : List Int := idxFrom canRunM 0 l
def runnableM (m : MB) : List Int := idxFrom canRunM 0 m.guests
theorem idx_map {α β : Type} (p : β → Bool) (f : α → β) (k : Nat) (l : List α) : idxFrom (fun x => p (f x)) k l = idxFrom p k (l.map f) := by
  induction l generalizing k with
  | nil => rfl
  | cons x l ih => simp only [idxFrom, List.map_cons, ih]
set_option maxRecDepth 100000 in
set_option maxHeartbeats 4000000 in
theorem runnable_c (s : Sl GV) (W0 : World) (R : Rd GV.cells 15 W0 s) (Z : s.xs.length ≤ 4194304) : Calls Tryz.prog 161 #[.slice s.A s.xs.length s.c] W0 fun e w' => ∃ c : Sl Int, e = .returned (.slice c.A c.xs.length c.c) ∧ c.xs = runM (gsOf s) ∧ Hp W0 w' [.int c] := by
  have H := Hp.start W0
  go_enter Tryz.func161, Tryz.ntmps161
  go_wp2_with (first
    | go_skip
    | ((with_reducible refine at_box ?_); first | (refine wpList_box_H rfl rfl H rfl (by constructor) ?_; clear H; intro bB w H))
    | ((with_reducible refine at_alloc ?_); first | (refine wpList_alloc_H rfl rfl H ?_; clear H; intro b w H))
    | ((with_reducible refine at_load ?_); first | (refine wpList_load_H rfl rfl H rfl (by repeat constructor) ?_) | (refine wpList_loads_H rfl rfl H rfl (by repeat constructor) ?_))
    | ((with_reducible refine at_store ?_); first | (refine wpList_store_H rfl rfl H rfl rfl (by repeat constructor) ?_; clear H; intro w H))
    | ((with_reducible refine at_slice ?_); first | (refine wpList_nil_H rfl rfl H ?_; clear H; intro bc w H)))
  go_loopw [3, 9] (fun ov i wr => ∃ (k : Nat) (c : Sl Int), k ≤ s.xs.length ∧ i = .int .i64 k ∧ ov = .slice c.A c.xs.length c.c ∧ c.xs.length ≤ k ∧ c.xs = idxFrom (fun g : GV => canRunM g.m) 0 (s.xs.take k) ∧ Hp W0 wr [.int c]) (fun _ i _ => s.xs.length - (intOf i).toNat)
  case atStart => exact ⟨0, ⟨some ⟨bc, 0, none⟩, 0, []⟩, by omega, rfl, rfl, by simp, by simp [idxFrom], H.pick (.cons (by repeat constructor) .nil)⟩
  case round =>
    clear H
    obtain ⟨k, c, hk0, rfl, rfl, hcl, hcx, H⟩ := hrel
    have HC := Lib.hid hcx; have HL := Lib.hid hcl; clear hcx hcl
    by_cases hk : k < s.xs.length
    · obtain ⟨y, hy0⟩ : ∃ y, s.xs[k]? = some y := ⟨_, List.getElem?_eq_getElem hk⟩
      have HY := Lib.hid hy0; clear hy0
      cases hp : (fun g : GV => canRunM g.m) y
      · go_wp2_with (first
          | go_skip
          | ((with_reducible refine at_box ?_); first | (refine wpList_box_H rfl rfl H rfl (by constructor) ?_; clear H; intro b w H))
          | ((with_reducible refine at_alloc ?_); first | (refine wpList_alloc_H rfl rfl H ?_; clear H; intro b w H))
          | ((with_reducible refine at_load ?_); first | (refine wpList_loads_rd rfl rfl s (R.at_ H) rfl y HY.out (by repeat constructor) ?_) | (refine wpList_load_H rfl rfl H rfl (by repeat constructor) ?_) | (refine wpList_loads_H rfl rfl H rfl (by repeat constructor) ?_))
          | ((with_reducible refine at_store ?_); first | (refine wpList_store_H rfl rfl H rfl rfl (by repeat constructor) ?_; clear H; intro w H))
          | ((with_reducible refine at_index ?_); first | (refine wpList_index_n rfl rfl s (R.at_ H) rfl rfl rfl hk ?_))
          | ((with_reducible refine at_slice ?_); first | (refine wpList_one_H rfl rfl H (k : Int) rfl (by constructor) rfl (by decide) ?_; clear H; intro bl w H))
          | ((with_reducible refine at_append ?_); first | (refine wpList_append_H rfl rfl H c (⟨some ⟨bl, 0, none⟩, 1, [(k : Int)]⟩ : Sl Int) rfl rfl (by repeat constructor) (H.rd (by repeat constructor) int_len) (by have := HL.out; simp only [List.length_cons, List.length_nil]; omega) (by decide) ?_; clear H; intro c2 w HX H))
          | (go_at_call 182; refine (canRun_any y _).mono ?_; rintro e w ⟨he, hb⟩; rw [(hp : canRunM y.m = _)] at he; subst he; replace H := H.still hb; clear hb))
        go_roundw
        case rel => exact ⟨k + 1, c, by omega, by go_num, rfl, by have := HL.out; omega, idx_false HC.out HY.out hp, H.pick (.cons (by repeat constructor) .nil)⟩
        case measure => simp [intOf]; omega
      · go_wp2_with (first
          | go_skip
          | ((with_reducible refine at_box ?_); first | (refine wpList_box_H rfl rfl H rfl (by constructor) ?_; clear H; intro b w H))
          | ((with_reducible refine at_alloc ?_); first | (refine wpList_alloc_H rfl rfl H ?_; clear H; intro b w H))
          | ((with_reducible refine at_load ?_); first | (refine wpList_loads_rd rfl rfl s (R.at_ H) rfl y HY.out (by repeat constructor) ?_) | (refine wpList_load_H rfl rfl H rfl (by repeat constructor) ?_) | (refine wpList_loads_H rfl rfl H rfl (by repeat constructor) ?_))
          | ((with_reducible refine at_store ?_); first | (refine wpList_store_H rfl rfl H rfl rfl (by repeat constructor) ?_; clear H; intro w H))
          | ((with_reducible refine at_index ?_); first | (refine wpList_index_n rfl rfl s (R.at_ H) rfl rfl rfl hk ?_))
          | ((with_reducible refine at_slice ?_); first | (refine wpList_one_H rfl rfl H (k : Int) rfl (by constructor) rfl (by decide) ?_; clear H; intro bl w H))
          | ((with_reducible refine at_append ?_); first | (refine wpList_append_H rfl rfl H c (⟨some ⟨bl, 0, none⟩, 1, [(k : Int)]⟩ : Sl Int) rfl rfl (by repeat constructor) (H.rd (by repeat constructor) int_len) (by have := HL.out; simp only [List.length_cons, List.length_nil]; omega) (by decide) ?_; clear H; intro c2 w HX H))
          | (go_at_call 182; refine (canRun_any y _).mono ?_; rintro e w ⟨he, hb⟩; rw [(hp : canRunM y.m = _)] at he; subst he; replace H := H.still hb; clear hb))
        go_roundw
        case rel => exact ⟨k + 1, c2, by omega, by go_num, rfl, by have := HL.out; rw [HX.out]; simp; omega, by rw [HX.out]; exact idx_true HC.out HY.out hp, H.pick (.cons (by repeat constructor) .nil)⟩
        case measure => simp [intOf]; omega
    · have hke : k = s.xs.length := by omega
      subst hke
      go_wp2_with (first
        | go_skip
        | ((with_reducible refine at_box ?_); first | (refine wpList_box_H rfl rfl H rfl (by constructor) ?_; clear H; intro b w H))
        | ((with_reducible refine at_alloc ?_); first | (refine wpList_alloc_H rfl rfl H ?_; clear H; intro b w H))
        | ((with_reducible refine at_load ?_); first | (refine wpList_load_H rfl rfl H rfl (by repeat constructor) ?_) | (refine wpList_loads_H rfl rfl H rfl (by repeat constructor) ?_))
        | ((with_reducible refine at_store ?_); first | (refine wpList_store_H rfl rfl H rfl rfl (by repeat constructor) ?_; clear H; intro w H)))
      go_ret
      have hc := HC.out
      rw [List.take_length] at hc
      refine ⟨c, rfl, ?_, H.pick (.cons (by repeat constructor) .nil)⟩
      rw [hc]; exact idx_map canRunM GV.m 0 _
set_option maxRecDepth 100000 in
set_option maxHeartbeats 4000000 in
theorem runnableB_c (B : BV) (W0 : World) (R : BRd W0 B) (Z : BBig B) : Calls Tryz.prog 58 #[B.val] W0 fun e w' => ∃ c : Sl Int, e = .returned (.slice c.A c.xs.length c.c) ∧ c.xs = runnableM B.m ∧ Hp W0 w' [.int c] := by
  have z2 := Z.gs
  have H := Hp.start W0
  go_enter Tryz.func58, Tryz.ntmps58
  go_wp2_with (first
    | go_skip
    | ((with_reducible refine at_box ?_); first | (refine wpList_box_H rfl rfl H rfl (by constructor) ?_; clear H; intro bB w H))
    | ((with_reducible refine at_alloc ?_); first | (refine wpList_alloc_H rfl rfl H ?_; clear H; intro b w H))
    | ((with_reducible refine at_load ?_); first | (refine wpList_load_H rfl rfl H rfl (by repeat constructor) ?_) | (refine wpList_loads_H rfl rfl H rfl (by repeat constructor) ?_))
    | ((with_reducible refine at_store ?_); first | (refine wpList_store_H rfl rfl H rfl rfl (by repeat constructor) ?_; clear H; intro w H))
    | (go_at_call 161; refine (runnable_c B.gs _ (R.gs.at_ H) z2).mono ?_; rintro e w ⟨c, rfl, x1, K⟩; have HX := Lib.hid x1; clear x1; replace H := H.add_all K; clear K))
  go_ret
  exact ⟨c, rfl, HX.out, H.pick (.cons (by repeat constructor) .nil)⟩
set_option maxRecDepth 100000 in
set_option maxHeartbeats 4000000 in
theorem specRunnable_c (B : BV) (W0 : World) (R : BRd W0 B) (Z : B.gs.xs.length ≤ 4194304) : Calls Tryz.prog 59 #[B.val] W0 fun e w' => ∃ c : Sl Int, e = .returned (.slice c.A c.xs.length c.c) ∧ c.xs = runnableM B.m ∧ Hp W0 w' [.int c] := by
  have H := Hp.start W0
  go_enter Tryz.func59, Tryz.ntmps59
  go_wp2_with (first
    | go_skip
    | ((with_reducible refine at_box ?_); first | (refine wpList_box_H rfl rfl H rfl (by constructor) ?_; clear H; intro bB w H))
    | ((with_reducible refine at_alloc ?_); first | (refine wpList_alloc_H rfl rfl H ?_; clear H; intro b w H))
    | ((with_reducible refine at_load ?_); first | (refine wpList_load_H rfl rfl H rfl (by repeat constructor) ?_) | (refine wpList_loads_H rfl rfl H rfl (by repeat constructor) ?_))
    | ((with_reducible refine at_store ?_); first | (refine wpList_store_H rfl rfl H rfl rfl (by repeat constructor) ?_; clear H; intro w H))
    | ((with_reducible refine at_slice ?_); first | (refine wpList_nil_H rfl rfl H ?_; clear H; intro bc w H)))
  go_loopw [3, 4] (fun ov i wr => ∃ (k : Nat) (c : Sl Int), k ≤ B.gs.xs.length ∧ i = .int .i64 k ∧ ov = .slice c.A c.xs.length c.c ∧ c.xs.length ≤ k ∧ c.xs = idxFrom (fun g : GV => canRunM g.m) 0 (B.gs.xs.take k) ∧ Hp W0 wr [.int c, .box bB 28 (barr B).toList]) (fun _ i _ => B.gs.xs.length - (intOf i).toNat)
  case atStart => exact ⟨0, ⟨some ⟨bc, 0, none⟩, 0, []⟩, by omega, rfl, rfl, by simp, by simp [idxFrom], H.pick (.cons (by repeat constructor) (.cons (by repeat constructor) .nil))⟩
  case round =>
    clear H
    obtain ⟨k, c, hk0, rfl, rfl, hcl, hcx, H⟩ := hrel
    have HC := Lib.hid hcx; have HL := Lib.hid hcl; clear hcx hcl
    by_cases hk : k < B.gs.xs.length
    · obtain ⟨y, hy0⟩ : ∃ y, B.gs.xs[k]? = some y := ⟨_, List.getElem?_eq_getElem hk⟩
      have HY := Lib.hid hy0; clear hy0
      cases hp : (fun g : GV => canRunM g.m) y
      · go_wp2_with (first
          | go_skip
          | ((with_reducible refine at_box ?_); first | (refine wpList_box_H rfl rfl H rfl (by constructor) ?_; clear H; intro b w H))
          | ((with_reducible refine at_alloc ?_); first | (refine wpList_alloc_H rfl rfl H ?_; clear H; intro b w H))
          | ((with_reducible refine at_load ?_); first | (refine wpList_loads_rd rfl rfl B.gs (R.gs.at_ H) rfl y HY.out (by repeat constructor) ?_) | (refine wpList_load_H rfl rfl H rfl (by repeat constructor) ?_) | (refine wpList_loads_H rfl rfl H rfl (by repeat constructor) ?_))
          | ((with_reducible refine at_store ?_); first | (refine wpList_store_H rfl rfl H rfl rfl (by repeat constructor) ?_; clear H; intro w H))
          | ((with_reducible refine at_index ?_); first | (refine wpList_index_n rfl rfl B.gs (R.gs.at_ H) rfl rfl rfl hk ?_))
          | ((with_reducible refine at_slice ?_); first | (refine wpList_one_H rfl rfl H (k : Int) rfl (by constructor) rfl (by decide) ?_; clear H; intro bl w H))
          | ((with_reducible refine at_append ?_); first | (refine wpList_append_H rfl rfl H c (⟨some ⟨bl, 0, none⟩, 1, [(k : Int)]⟩ : Sl Int) rfl rfl (by repeat constructor) (H.rd (by repeat constructor) int_len) (by have := HL.out; simp only [List.length_cons, List.length_nil]; omega) (by decide) ?_; clear H; intro c2 w HX H))
          | (go_at_call 25; refine (specCanRun_any y _).mono ?_; rintro e w ⟨he, hb⟩; rw [(hp : canRunM y.m = _)] at he; subst he; replace H := H.still hb; clear hb))
        go_roundw
        case rel => exact ⟨k + 1, c, by omega, by go_num, rfl, by have := HL.out; omega, idx_false HC.out HY.out hp, H.pick (.cons (by repeat constructor) (.cons (by repeat constructor) .nil))⟩
        case measure => simp [intOf]; omega
      · go_wp2_with (first
          | go_skip
          | ((with_reducible refine at_box ?_); first | (refine wpList_box_H rfl rfl H rfl (by constructor) ?_; clear H; intro b w H))
          | ((with_reducible refine at_alloc ?_); first | (refine wpList_alloc_H rfl rfl H ?_; clear H; intro b w H))
          | ((with_reducible refine at_load ?_); first | (refine wpList_loads_rd rfl rfl B.gs (R.gs.at_ H) rfl y HY.out (by repeat constructor) ?_) | (refine wpList_load_H rfl rfl H rfl (by repeat constructor) ?_) | (refine wpList_loads_H rfl rfl H rfl (by repeat constructor) ?_))
          | ((with_reducible refine at_store ?_); first | (refine wpList_store_H rfl rfl H rfl rfl (by repeat constructor) ?_; clear H; intro w H))
          | ((with_reducible refine at_index ?_); first | (refine wpList_index_n rfl rfl B.gs (R.gs.at_ H) rfl rfl rfl hk ?_))
          | ((with_reducible refine at_slice ?_); first | (refine wpList_one_H rfl rfl H (k : Int) rfl (by constructor) rfl (by decide) ?_; clear H; intro bl w H))
          | ((with_reducible refine at_append ?_); first | (refine wpList_append_H rfl rfl H c (⟨some ⟨bl, 0, none⟩, 1, [(k : Int)]⟩ : Sl Int) rfl rfl (by repeat constructor) (H.rd (by repeat constructor) int_len) (by have := HL.out; simp only [List.length_cons, List.length_nil]; omega) (by decide) ?_; clear H; intro c2 w HX H))
          | (go_at_call 25; refine (specCanRun_any y _).mono ?_; rintro e w ⟨he, hb⟩; rw [(hp : canRunM y.m = _)] at he; subst he; replace H := H.still hb; clear hb))
        go_roundw
        case rel => exact ⟨k + 1, c2, by omega, by go_num, rfl, by have := HL.out; rw [HX.out]; simp; omega, by rw [HX.out]; exact idx_true HC.out HY.out hp, H.pick (.cons (by repeat constructor) (.cons (by repeat constructor) .nil))⟩
        case measure => simp [intOf]; omega
    · have hke : k = B.gs.xs.length := by omega
      subst hke
      go_wp2_with (first
        | go_skip
        | ((with_reducible refine at_box ?_); first | (refine wpList_box_H rfl rfl H rfl (by constructor) ?_; clear H; intro b w H))
        | ((with_reducible refine at_alloc ?_); first | (refine wpList_alloc_H rfl rfl H ?_; clear H; intro b w H))
        | ((with_reducible refine at_load ?_); first | (refine wpList_load_H rfl rfl H rfl (by repeat constructor) ?_) | (refine wpList_loads_H rfl rfl H rfl (by repeat constructor) ?_))
        | ((with_reducible refine at_store ?_); first | (refine wpList_store_H rfl rfl H rfl rfl (by repeat constructor) ?_; clear H; intro w H)))
      go_ret
      have hc := HC.out
      rw [List.take_length] at hc
      refine ⟨c, rfl, ?_, H.pick (.cons (by repeat constructor) .nil)⟩
      rw [hc]; exact idx_map canRunM GV.m 0 _
set_option maxRecDepth 100000 in
set_option maxHeartbeats 4000000 in
theorem seenOf_c (B : BV) (g : Int) (W0 : World) (R : BRd W0 B) (Z : BBig B) : Calls Tryz.prog 60 #[B.val, .int .i64 g] W0 fun e w' => ∃ c : Sl Int, e = .returned (.slice c.A c.xs.length c.c) ∧ c.xs = (gAtM B.m g).seen ∧ Hp W0 w' [.int c] := by
  have H := Hp.start W0
  go_enter Tryz.func60, Tryz.ntmps60
  go_wp2_with (first
    | go_skip
    | ((with_reducible refine at_box ?_); first | (refine wpList_box_H rfl rfl H rfl (by constructor) ?_; clear H; intro bB w H))
    | ((with_reducible refine at_alloc ?_); first | (refine wpList_alloc_H rfl rfl H ?_; clear H; intro b w H))
    | ((with_reducible refine at_load ?_); first | (refine wpList_load_H rfl rfl H rfl (by repeat constructor) ?_) | (refine wpList_loads_H rfl rfl H rfl (by repeat constructor) ?_))
    | ((with_reducible refine at_store ?_); first | (refine wpList_store_H rfl rfl H rfl rfl (by repeat constructor) ?_; clear H; intro w H))
    | ((with_reducible refine at_slice ?_); first | (refine wpList_nil_H rfl rfl H ?_; clear H; intro bn w H))
    | ((with_reducible refine at_append ?_); first | (refine wpList_append_H rfl rfl H (⟨some ⟨bn, 0, none⟩, 0, []⟩ : Sl Int) d.seen rfl rfl (by repeat constructor) (H.rd (by repeat constructor) int_len) (by simp only [List.length_nil]; omega) (by decide) ?_; clear H; intro c w HX H; replace HX := nil_app HX))
    | (go_at_call 40; refine (guestAt_c B g _ (R.at_ H) Z).mono ?_; rintro e w ⟨d, rfl, x1, K⟩; have HD := Lib.hid x1; clear x1; replace H := H.add_all K; clear K; have hdl : d.seen.xs.length ≤ 4194304 := (size_big HD.out (Nat.le_trans (gAtM_size _ _) Z)).2.2.2; replace H := H.slices))
  go_ret
  exact ⟨d.seen, rfl, by rw [← HD.out]; rfl, H.pick (.cons (by repeat constructor) .nil)⟩
set_option maxRecDepth 100000 in
set_option maxHeartbeats 4000000 in
theorem specSeenOf_c (B : BV) (g : Int) (W0 : World) (R : BRd W0 B) (Z : BBig B) : Calls Tryz.prog 61 #[B.val, .int .i64 g] W0 fun e w' => ∃ c : Sl Int, e = .returned (.slice c.A c.xs.length c.c) ∧ c.xs = (gAtM B.m g).seen ∧ Hp W0 w' [.int c] := by
  have H := Hp.start W0
  go_enter Tryz.func61, Tryz.ntmps61
  go_wp2_with (first
    | go_skip
    | ((with_reducible refine at_box ?_); first | (refine wpList_box_H rfl rfl H rfl (by constructor) ?_; clear H; intro bB w H))
    | ((with_reducible refine at_alloc ?_); first | (refine wpList_alloc_H rfl rfl H ?_; clear H; intro b w H))
    | ((with_reducible refine at_load ?_); first | (refine wpList_load_H rfl rfl H rfl (by repeat constructor) ?_) | (refine wpList_loads_H rfl rfl H rfl (by repeat constructor) ?_))
    | ((with_reducible refine at_store ?_); first | (refine wpList_store_H rfl rfl H rfl rfl (by repeat constructor) ?_; clear H; intro w H))
    | ((with_reducible refine at_slice ?_); first | (refine wpList_nil_H rfl rfl H ?_; clear H; intro bn w H))
    | ((with_reducible refine at_append ?_); first | (refine wpList_append_H rfl rfl H (⟨some ⟨bn, 0, none⟩, 0, []⟩ : Sl Int) d.seen rfl rfl (by repeat constructor) (H.rd (by repeat constructor) int_len) (by simp only [List.length_nil]; omega) (by decide) ?_; clear H; intro c w HX H; replace HX := nil_app HX))
    | (go_at_call 41; refine (specGuestAt_c B g _ (R.at_ H) Z).mono ?_; rintro e w ⟨d, rfl, x1, K⟩; have HD := Lib.hid x1; clear x1; replace H := H.add_all K; clear K; have hdl : d.seen.xs.length ≤ 4194304 := (size_big HD.out (Nat.le_trans (gAtM_size _ _) Z)).2.2.2; replace H := H.slices))
  go_ret
  exact ⟨c, rfl, by rw [HX.out, ← HD.out]; rfl, H.pick (.cons (by repeat constructor) .nil)⟩
end Go.Proofs.YtaafnenmdombiaaGreat
