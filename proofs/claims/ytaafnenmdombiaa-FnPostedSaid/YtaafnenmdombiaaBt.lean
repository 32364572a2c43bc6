/- Contracts of CellAt, WithCell, SlotAt, WithSlot, of the program and of the reference. No condition but that the arguments lie in memory. -/
import Derived.Test.YtaafnenmdombiaaBp
import Derived.Test.YtaafnenmdombiaaOk2
import Derived.Test.YtaafnenmdombiaaBk
namespace Go.Proofs.Ytaafnenmdombiaa
set_option linter.unusedSimpArgs false
set_option linter.unusedVariables false
open Go.RowKit
def rowM (m : List (List Int)) (p : Int) : List Int := (m[p.toNat]?).getD []
def cellOkM (m : List (List Int)) (p c : Int) : Bool := hasB p m.length && hasB c (rowM m p).length
def cellAtM (m : List (List Int)) (p c : Int) : Int := if cellOkM m p c then ((rowM m p)[c.toNat]?).getD 0 else 0
def withCellM (m : List (List Int)) (p c v : Int) : List (List Int) := if cellOkM m p c && inB v 0 99 then m.set p.toNat ((rowM m p).set c.toNat v) else m
theorem hasB_in (k n : Int) : inB k 0 (n - 1) = hasB k n := by simp only [inB, hasB]; congr 1; exact decide_eq_decide.2 (by omega)
theorem hasB_nat {k n : Nat} (h : k < n) : hasB (k : Int) (n : Int) = true := by simp [hasB, h]
theorem hasB_not {k : Int} {n : Nat} (h : ¬ (0 ≤ k ∧ k < n)) : hasB k (n : Int) = false := by simp [hasB]; omega
section
variable {s : Sl (Sl Int)} {k : Nat} {r : Sl Int}
theorem row_at (hr : s.xs[k]? = some r) : rowM (memOf s) k = r.xs := by simp [rowM, memOf, hr]
theorem cellOk_hit (hr : s.xs[k]? = some r) (c : Int) : cellOkM (memOf s) k c = hasB c r.xs.length := by
  have hk : k < s.xs.length := (List.getElem?_eq_some_iff.1 hr).1
  unfold cellOkM; rw [row_at hr]; simp [memOf, hasB_nat hk]
theorem cellOk_miss {p : Int} (h : ¬ (0 ≤ p ∧ p < s.xs.length)) (c : Int) : cellOkM (memOf s) p c = false := by
  unfold cellOkM memOf; rw [List.length_map, hasB_not h]; rfl
end
theorem Hp.many_at {w0 w : World} {L : List En} {α : Type} {f : α → En} {l : List α} {k : Nat} {r : α} (hr : l[k]? = some r) (H : Hp w0 w (.many f l :: L)) : ∃ l1 l2, l = l1 ++ r :: l2 ∧ l1.length = k ∧ Hp w0 w (f r :: .many f l1 :: .many f l2 :: L) := by
  have hk : k < l.length := (List.getElem?_eq_some_iff.1 hr).1
  have e : l = l.take k ++ r :: l.drop (k + 1) := by rw [← drop_cons hr]; exact (List.take_append_drop _ _).symm
  refine ⟨l.take k, l.drop (k + 1), e, by rw [List.length_take]; omega, ?_⟩
  rw [e] at H
  exact H.many_split
/-- A row of rows of the call's own, one of which has turned within its block. -/
theorem Hp.row_set {w0 w : World} {L : List En} {d : Sl (Sl Int)} {l1 l2 : List (Sl Int)} {r : Sl Int} (e : d.xs = l1 ++ r :: l2) (xs : List Int) (hl : xs.length = r.xs.length) (H : Hp w0 w (.int ⟨r.A, r.c, xs⟩ :: .many En.int l1 :: .many En.int l2 :: .rows d :: L)) :
    Hp w0 w (.rows ⟨d.A, d.c, l1 ++ ⟨r.A, r.c, xs⟩ :: l2⟩ :: .many En.int (l1 ++ ⟨r.A, r.c, xs⟩ :: l2) :: L) := by
  have H1 := (Hp.many_join (f := En.int) H).recode (.tail .head) (l1 ++ ⟨r.A, r.c, xs⟩ :: l2) (by rw [e]; simp) (by rw [e]; simp [hcells, hl])
  exact H1
theorem mem_split {w0 w : World} {L : List En} {s d : Sl (Sl Int)} {k : Nat} {r : Sl Int} (HD : Hid (d.xs.map (fun x => x.xs) = s.xs.map (fun x => x.xs))) (HR : Hid (s.xs[k]? = some r)) (H : Hp w0 w (.rows d :: .many En.int d.xs :: L)) :
    ∃ q l1 l2, Hid (d.xs[k]? = some q) ∧ Hid (q.xs = r.xs) ∧ Hid (d.xs = l1 ++ q :: l2) ∧ Hid (l1.length = k) ∧ Hid (d.xs.length = s.xs.length) ∧ Hp w0 w (.int q :: .many En.int l1 :: .many En.int l2 :: .rows d :: L) := by
  have e0 := HD.out
  have hl : d.xs.length = s.xs.length := by have h := congrArg List.length e0; simpa using h
  have hk : k < s.xs.length := (List.getElem?_eq_some_iff.1 HR.out).1
  obtain ⟨q, hq⟩ : ∃ q, d.xs[k]? = some q := ⟨_, List.getElem?_eq_getElem (by rw [hl]; exact hk)⟩
  have hx : q.xs = r.xs := by have h := congrArg (fun l => l[k]?) e0; simp only [List.getElem?_map, hq, HR.out, Option.map_some, Option.some.injEq] at h; exact h
  obtain ⟨l1, l2, h1, h2, H1⟩ := Hp.many_at hq (H.perm (List.Perm.swap _ _ _))
  exact ⟨q, l1, l2, hq, hx, h1, h2, hl, H1⟩
set_option linter.unusedSimpArgs false in
set_option linter.unusedVariables false in
set_option maxRecDepth 100000 in
set_option maxHeartbeats 4000000 in
theorem l04Has_c (s : Sl (Sl Int)) (p c : Int) (W0 : World) (R : Rd hcells 1 W0 s) (Ri : ∀ x ∈ s.xs, Rd icell 1 W0 x) (Z : s.xs.length ≤ 4194304) (Zi : ∀ x ∈ s.xs, x.xs.length ≤ 4194304) : Calls Try.prog 42 #[.slice s.A s.xs.length s.c, .int .i64 p, .int .i64 c] W0 fun e w' => e = .returned (.bool (cellOkM (memOf s) p c)) ∧ Hp W0 w' [] := by
  by_cases hp : 0 ≤ p ∧ p < s.xs.length
  · obtain ⟨k, rfl⟩ := Int.eq_ofNat_of_zero_le hp.1
    have hk : k < s.xs.length := by omega
    have HB : Hid (hasB (k : Int) (s.xs.length : Int) = true) := hasB_nat hk
    obtain ⟨r, hr⟩ : ∃ r, s.xs[k]? = some r := ⟨_, List.getElem?_eq_getElem hk⟩
    have HR := Lib.hid hr; clear hr hp
    have RR := Lib.hid (Ri r (List.mem_of_getElem? HR.out))
    have zr := Zi r (List.mem_of_getElem? HR.out)
    by_cases hc : 0 ≤ c ∧ c < r.xs.length
    · obtain ⟨j, rfl⟩ := Int.eq_ofNat_of_zero_le hc.1
      have hj : j < r.xs.length := by omega
      have HC : Hid (hasB (j : Int) (r.xs.length : Int) = true) := hasB_nat hj
      obtain ⟨x, hx⟩ : ∃ x, r.xs[j]? = some x := ⟨_, List.getElem?_eq_getElem hj⟩
      have HX := Lib.hid hx; clear hx hc
      have H := Hp.start W0
      go_enter Try.func42, Try.ntmps42
      go_wp2_with (first
        | go_skip
        | ((with_reducible refine at_box ?_); first | (refine wpList_box_H rfl rfl H rfl (by first | exact CellsOf.agg | exact CellsOf.int | exact CellsOf.bool | exact CellsOf.slice | exact CellsOf.string | exact CellsOf.pointer | exact CellsOf.func) ?_; clear H; intro b w H))
        | ((with_reducible refine at_alloc ?_); first | (refine wpList_alloc_H rfl rfl H ?_; clear H; intro b w H))
        | ((with_reducible refine at_load ?_); first | (refine wpList_load_rd rfl rfl s (R.at_ H) rfl r HR.out rfl ?_) | (refine wpList_load_H rfl rfl H rfl (by repeat (first | exact LoadAt.here rfl | apply LoadAt.there)) ?_) | (refine wpList_loads_H rfl rfl H rfl (by repeat (first | (apply LoadsAt.here; repeat (first | exact GetsAt.nil | apply GetsAt.here | apply GetsAt.there)) | apply LoadsAt.there)) ?_))
        | ((with_reducible refine at_store ?_); first | (refine wpList_store_H rfl rfl H rfl rfl (by repeat (first | (apply StoreAt.here; (first | exact CellsOf.agg | exact CellsOf.int | exact CellsOf.bool | exact CellsOf.slice | exact CellsOf.string | exact CellsOf.pointer | exact CellsOf.func); (repeat (first | exact SetsAt.nil | apply SetsAt.here | apply SetsAt.there)); exact rfl; exact rfl) | apply StoreAt.there)) ?_; clear H; intro w H))
        | ((with_reducible refine at_index ?_); first | (refine wpList_index_n rfl rfl s (R.at_ H) rfl rfl rfl hk ?_))
        | (go_at_call 35; refine (in_any _ _ _ _).mono ?_; rintro e w' ⟨he, hw⟩; subst hw; rw [hasB_in] at he; rw [HB.out] at he; subst he)
        | (go_at_call 35; refine (in_any _ _ _ _).mono ?_; rintro e w' ⟨he, hw⟩; subst hw; rw [hasB_in] at he; rw [HC.out] at he; subst he))
      go_ret
      exact ⟨ret_bool (by rw [cellOk_hit HR.out, HC.out]), H⟩
    · have HC : Hid (hasB c (r.xs.length : Int) = false) := hasB_not hc
      have H := Hp.start W0
      go_enter Try.func42, Try.ntmps42
      go_wp2_with (first
        | go_skip
        | ((with_reducible refine at_box ?_); first | (refine wpList_box_H rfl rfl H rfl (by first | exact CellsOf.agg | exact CellsOf.int | exact CellsOf.bool | exact CellsOf.slice | exact CellsOf.string | exact CellsOf.pointer | exact CellsOf.func) ?_; clear H; intro b w H))
        | ((with_reducible refine at_alloc ?_); first | (refine wpList_alloc_H rfl rfl H ?_; clear H; intro b w H))
        | ((with_reducible refine at_load ?_); first | (refine wpList_load_rd rfl rfl s (R.at_ H) rfl r HR.out rfl ?_) | (refine wpList_load_H rfl rfl H rfl (by repeat (first | exact LoadAt.here rfl | apply LoadAt.there)) ?_) | (refine wpList_loads_H rfl rfl H rfl (by repeat (first | (apply LoadsAt.here; repeat (first | exact GetsAt.nil | apply GetsAt.here | apply GetsAt.there)) | apply LoadsAt.there)) ?_))
        | ((with_reducible refine at_store ?_); first | (refine wpList_store_H rfl rfl H rfl rfl (by repeat (first | (apply StoreAt.here; (first | exact CellsOf.agg | exact CellsOf.int | exact CellsOf.bool | exact CellsOf.slice | exact CellsOf.string | exact CellsOf.pointer | exact CellsOf.func); (repeat (first | exact SetsAt.nil | apply SetsAt.here | apply SetsAt.there)); exact rfl; exact rfl) | apply StoreAt.there)) ?_; clear H; intro w H))
        | ((with_reducible refine at_index ?_); first | (refine wpList_index_n rfl rfl s (R.at_ H) rfl rfl rfl hk ?_))
        | (go_at_call 35; refine (in_any _ _ _ _).mono ?_; rintro e w' ⟨he, hw⟩; subst hw; rw [hasB_in] at he; rw [HB.out] at he; subst he)
        | (go_at_call 35; refine (in_any _ _ _ _).mono ?_; rintro e w' ⟨he, hw⟩; subst hw; rw [hasB_in] at he; rw [HC.out] at he; subst he))
      go_ret
      exact ⟨ret_bool (by rw [cellOk_hit HR.out, HC.out]), H⟩
  · have HB : Hid (hasB p (s.xs.length : Int) = false) := hasB_not hp
    have H := Hp.start W0
    go_enter Try.func42, Try.ntmps42
    go_wp2_with (first
      | go_skip
      | ((with_reducible refine at_box ?_); first | (refine wpList_box_H rfl rfl H rfl (by first | exact CellsOf.agg | exact CellsOf.int | exact CellsOf.bool | exact CellsOf.slice | exact CellsOf.string | exact CellsOf.pointer | exact CellsOf.func) ?_; clear H; intro b w H))
      | ((with_reducible refine at_alloc ?_); first | (refine wpList_alloc_H rfl rfl H ?_; clear H; intro b w H))
      | ((with_reducible refine at_load ?_); first | (refine wpList_load_H rfl rfl H rfl (by repeat (first | exact LoadAt.here rfl | apply LoadAt.there)) ?_) | (refine wpList_loads_H rfl rfl H rfl (by repeat (first | (apply LoadsAt.here; repeat (first | exact GetsAt.nil | apply GetsAt.here | apply GetsAt.there)) | apply LoadsAt.there)) ?_))
      | ((with_reducible refine at_store ?_); first | (refine wpList_store_H rfl rfl H rfl rfl (by repeat (first | (apply StoreAt.here; (first | exact CellsOf.agg | exact CellsOf.int | exact CellsOf.bool | exact CellsOf.slice | exact CellsOf.string | exact CellsOf.pointer | exact CellsOf.func); (repeat (first | exact SetsAt.nil | apply SetsAt.here | apply SetsAt.there)); exact rfl; exact rfl) | apply StoreAt.there)) ?_; clear H; intro w H))
      | (go_at_call 35; refine (in_any _ _ _ _).mono ?_; rintro e w' ⟨he, hw⟩; subst hw; rw [hasB_in] at he; rw [HB.out] at he; subst he))
    go_ret
    exact ⟨ret_bool (by rw [cellOk_miss hp]), H⟩
set_option linter.unusedSimpArgs false in
set_option linter.unusedVariables false in
set_option maxRecDepth 100000 in
set_option maxHeartbeats 4000000 in
theorem specCellAt_c (s : Sl (Sl Int)) (p c : Int) (W0 : World) (R : Rd hcells 1 W0 s) (Ri : ∀ x ∈ s.xs, Rd icell 1 W0 x) (Z : s.xs.length ≤ 4194304) (Zi : ∀ x ∈ s.xs, x.xs.length ≤ 4194304) : Calls Try.prog 13 #[.slice s.A s.xs.length s.c, .int .i64 p, .int .i64 c] W0 fun e w' => e = .returned (.int .i64 (cellAtM (memOf s) p c)) ∧ Hp W0 w' [] := by
  by_cases hp : 0 ≤ p ∧ p < s.xs.length
  · obtain ⟨k, rfl⟩ := Int.eq_ofNat_of_zero_le hp.1
    have hk : k < s.xs.length := by omega
    have HB : Hid (hasB (k : Int) (s.xs.length : Int) = true) := hasB_nat hk
    obtain ⟨r, hr⟩ : ∃ r, s.xs[k]? = some r := ⟨_, List.getElem?_eq_getElem hk⟩
    have HR := Lib.hid hr; clear hr hp
    have RR := Lib.hid (Ri r (List.mem_of_getElem? HR.out))
    have zr := Zi r (List.mem_of_getElem? HR.out)
    by_cases hc : 0 ≤ c ∧ c < r.xs.length
    · obtain ⟨j, rfl⟩ := Int.eq_ofNat_of_zero_le hc.1
      have hj : j < r.xs.length := by omega
      have HC : Hid (hasB (j : Int) (r.xs.length : Int) = true) := hasB_nat hj
      obtain ⟨x, hx⟩ : ∃ x, r.xs[j]? = some x := ⟨_, List.getElem?_eq_getElem hj⟩
      have HX := Lib.hid hx; clear hx hc
      have H := Hp.start W0
      go_enter Try.func13, Try.ntmps13
      go_wp2_with (first
        | go_skip
        | ((with_reducible refine at_box ?_); first | (refine wpList_box_H rfl rfl H rfl (by first | exact CellsOf.agg | exact CellsOf.int | exact CellsOf.bool | exact CellsOf.slice | exact CellsOf.string | exact CellsOf.pointer | exact CellsOf.func) ?_; clear H; intro b w H))
        | ((with_reducible refine at_alloc ?_); first | (refine wpList_alloc_H rfl rfl H ?_; clear H; intro b w H))
        | ((with_reducible refine at_load ?_); first | (refine wpList_load_rd rfl rfl s (R.at_ H) rfl r HR.out rfl ?_) | (refine wpList_load_rd rfl rfl r (RR.out.at_ H) rfl x HX.out rfl ?_) | (refine wpList_load_H rfl rfl H rfl (by repeat (first | exact LoadAt.here rfl | apply LoadAt.there)) ?_) | (refine wpList_loads_H rfl rfl H rfl (by repeat (first | (apply LoadsAt.here; repeat (first | exact GetsAt.nil | apply GetsAt.here | apply GetsAt.there)) | apply LoadsAt.there)) ?_))
        | ((with_reducible refine at_store ?_); first | (refine wpList_store_H rfl rfl H rfl rfl (by repeat (first | (apply StoreAt.here; (first | exact CellsOf.agg | exact CellsOf.int | exact CellsOf.bool | exact CellsOf.slice | exact CellsOf.string | exact CellsOf.pointer | exact CellsOf.func); (repeat (first | exact SetsAt.nil | apply SetsAt.here | apply SetsAt.there)); exact rfl; exact rfl) | apply StoreAt.there)) ?_; clear H; intro w H))
        | ((with_reducible refine at_index ?_); first | (refine wpList_index_n rfl rfl s (R.at_ H) rfl rfl rfl hk ?_) | (refine wpList_index_n rfl rfl r (RR.out.at_ H) rfl rfl rfl hj ?_))
        | (go_at_call 42; refine (l04Has_c s _ _ _ (R.at_ H) (fun x hx => (Ri x hx).at_ H) Z Zi).mono ?_; rintro e w ⟨he, K⟩; rw [cellOk_hit HR.out, HC.out] at he; subst he; replace H := H.add_all K; clear K))
      go_ret
      refine ⟨ret_int ?_, H⟩
      unfold cellAtM; rw [cellOk_hit HR.out, HC.out, row_at HR.out]; simp [HX.out]
    · have HC : Hid (hasB c (r.xs.length : Int) = false) := hasB_not hc
      have H := Hp.start W0
      go_enter Try.func13, Try.ntmps13
      go_wp2_with (first
        | go_skip
        | ((with_reducible refine at_box ?_); first | (refine wpList_box_H rfl rfl H rfl (by first | exact CellsOf.agg | exact CellsOf.int | exact CellsOf.bool | exact CellsOf.slice | exact CellsOf.string | exact CellsOf.pointer | exact CellsOf.func) ?_; clear H; intro b w H))
        | ((with_reducible refine at_alloc ?_); first | (refine wpList_alloc_H rfl rfl H ?_; clear H; intro b w H))
        | ((with_reducible refine at_load ?_); first | (refine wpList_load_rd rfl rfl s (R.at_ H) rfl r HR.out rfl ?_) | (refine wpList_load_H rfl rfl H rfl (by repeat (first | exact LoadAt.here rfl | apply LoadAt.there)) ?_) | (refine wpList_loads_H rfl rfl H rfl (by repeat (first | (apply LoadsAt.here; repeat (first | exact GetsAt.nil | apply GetsAt.here | apply GetsAt.there)) | apply LoadsAt.there)) ?_))
        | ((with_reducible refine at_store ?_); first | (refine wpList_store_H rfl rfl H rfl rfl (by repeat (first | (apply StoreAt.here; (first | exact CellsOf.agg | exact CellsOf.int | exact CellsOf.bool | exact CellsOf.slice | exact CellsOf.string | exact CellsOf.pointer | exact CellsOf.func); (repeat (first | exact SetsAt.nil | apply SetsAt.here | apply SetsAt.there)); exact rfl; exact rfl) | apply StoreAt.there)) ?_; clear H; intro w H))
        | ((with_reducible refine at_index ?_); first | (refine wpList_index_n rfl rfl s (R.at_ H) rfl rfl rfl hk ?_))
        | (go_at_call 42; refine (l04Has_c s _ _ _ (R.at_ H) (fun x hx => (Ri x hx).at_ H) Z Zi).mono ?_; rintro e w ⟨he, K⟩; rw [cellOk_hit HR.out, HC.out] at he; subst he; replace H := H.add_all K; clear K))
      go_ret
      refine ⟨ret_int ?_, H⟩
      unfold cellAtM; rw [cellOk_hit HR.out, HC.out]; rfl
  · have HB : Hid (hasB p (s.xs.length : Int) = false) := hasB_not hp
    have H := Hp.start W0
    go_enter Try.func13, Try.ntmps13
    go_wp2_with (first
      | go_skip
      | ((with_reducible refine at_box ?_); first | (refine wpList_box_H rfl rfl H rfl (by first | exact CellsOf.agg | exact CellsOf.int | exact CellsOf.bool | exact CellsOf.slice | exact CellsOf.string | exact CellsOf.pointer | exact CellsOf.func) ?_; clear H; intro b w H))
      | ((with_reducible refine at_alloc ?_); first | (refine wpList_alloc_H rfl rfl H ?_; clear H; intro b w H))
      | ((with_reducible refine at_load ?_); first | (refine wpList_load_H rfl rfl H rfl (by repeat (first | exact LoadAt.here rfl | apply LoadAt.there)) ?_) | (refine wpList_loads_H rfl rfl H rfl (by repeat (first | (apply LoadsAt.here; repeat (first | exact GetsAt.nil | apply GetsAt.here | apply GetsAt.there)) | apply LoadsAt.there)) ?_))
      | ((with_reducible refine at_store ?_); first | (refine wpList_store_H rfl rfl H rfl rfl (by repeat (first | (apply StoreAt.here; (first | exact CellsOf.agg | exact CellsOf.int | exact CellsOf.bool | exact CellsOf.slice | exact CellsOf.string | exact CellsOf.pointer | exact CellsOf.func); (repeat (first | exact SetsAt.nil | apply SetsAt.here | apply SetsAt.there)); exact rfl; exact rfl) | apply StoreAt.there)) ?_; clear H; intro w H))
      | (go_at_call 42; refine (l04Has_c s _ _ _ (R.at_ H) (fun x hx => (Ri x hx).at_ H) Z Zi).mono ?_; rintro e w ⟨he, K⟩; rw [cellOk_miss hp] at he; subst he; replace H := H.add_all K; clear K))
    go_ret
    refine ⟨ret_int ?_, H⟩
    unfold cellAtM; rw [cellOk_miss hp]; rfl
set_option linter.unusedSimpArgs false in
set_option linter.unusedVariables false in
set_option maxRecDepth 100000 in
set_option maxHeartbeats 4000000 in
theorem withCell_c (s : Sl (Sl Int)) (p c v : Int) (W0 : World) (R : Rd hcells 1 W0 s) (Ri : ∀ x ∈ s.xs, Rd icell 1 W0 x) (Z : s.xs.length ≤ 4194304) (Zi : ∀ x ∈ s.xs, x.xs.length ≤ 4194304) : Calls Try.prog 32 #[.slice s.A s.xs.length s.c, .int .i64 p, .int .i64 c, .int .i64 v] W0 fun e w' => ∃ d : Sl (Sl Int), e = .returned (.slice d.A d.xs.length d.c) ∧ d.xs.map (fun x => x.xs) = withCellM (memOf s) p c v ∧ Hp W0 w' [.rows d, .many En.int d.xs] := by
  by_cases hp : 0 ≤ p ∧ p < s.xs.length
  · obtain ⟨k, rfl⟩ := Int.eq_ofNat_of_zero_le hp.1
    have hk : k < s.xs.length := by omega
    have HB : Hid (hasB (k : Int) (s.xs.length : Int) = true) := hasB_nat hk
    obtain ⟨r, hr⟩ : ∃ r, s.xs[k]? = some r := ⟨_, List.getElem?_eq_getElem hk⟩
    have HR := Lib.hid hr; clear hr hp
    have RR := Lib.hid (Ri r (List.mem_of_getElem? HR.out))
    have zr := Zi r (List.mem_of_getElem? HR.out)
    by_cases hc : 0 ≤ c ∧ c < r.xs.length
    · obtain ⟨j, rfl⟩ := Int.eq_ofNat_of_zero_le hc.1
      have hj : j < r.xs.length := by omega
      have HC : Hid (hasB (j : Int) (r.xs.length : Int) = true) := hasB_nat hj
      obtain ⟨x, hx⟩ : ∃ x, r.xs[j]? = some x := ⟨_, List.getElem?_eq_getElem hj⟩
      have HX := Lib.hid hx; clear hx hc
      cases e3 : inB v 0 99
      · have hv := e3
        have H := Hp.start W0
        go_enter Try.func32, Try.ntmps32
        go_wp2_with (first
          | go_skip
          | ((with_reducible refine at_box ?_); first | (refine wpList_box_H rfl rfl H rfl (by first | exact CellsOf.agg | exact CellsOf.int | exact CellsOf.bool | exact CellsOf.slice | exact CellsOf.string | exact CellsOf.pointer | exact CellsOf.func) ?_; clear H; intro b w H))
          | ((with_reducible refine at_alloc ?_); first | (refine wpList_alloc_H rfl rfl H ?_; clear H; intro b w H))
          | ((with_reducible refine at_load ?_); first | (refine wpList_load_rd rfl rfl s (R.at_ H) rfl r HR.out rfl ?_) | (refine wpList_load_H rfl rfl H rfl (by repeat (first | exact LoadAt.here rfl | apply LoadAt.there)) ?_) | (refine wpList_loads_H rfl rfl H rfl (by repeat (first | (apply LoadsAt.here; repeat (first | exact GetsAt.nil | apply GetsAt.here | apply GetsAt.there)) | apply LoadsAt.there)) ?_))
          | ((with_reducible refine at_store ?_); first | (refine wpList_store_H rfl rfl H rfl rfl (by repeat (first | (apply StoreAt.here; (first | exact CellsOf.agg | exact CellsOf.int | exact CellsOf.bool | exact CellsOf.slice | exact CellsOf.string | exact CellsOf.pointer | exact CellsOf.func); (repeat (first | exact SetsAt.nil | apply SetsAt.here | apply SetsAt.there)); exact rfl; exact rfl) | apply StoreAt.there)) ?_; clear H; intro w H))
          | ((with_reducible refine at_index ?_); first | (refine wpList_index_n rfl rfl s (R.at_ H) rfl rfl rfl hk ?_))
          | (go_at_call 54; refine (copyMem_c s _ (R.at_ H) (fun x hx => (Ri x hx).at_ H) Z Zi).mono ?_; rintro e w ⟨d, rfl, x1, K⟩; have HD := Lib.hid x1; clear x1; replace H := H.add_all K; clear K; skip)
          | (go_at_call 30; refine (has_any _ _ _).mono ?_; rintro e w' ⟨he, hw⟩; subst hw; rw [HB.out] at he; subst he)
          | (go_at_call 30; refine (has_any _ _ _).mono ?_; rintro e w' ⟨he, hw⟩; subst hw; rw [HC.out] at he; subst he)
          | (go_at_call 31; refine (within_any _ _ _ _).mono ?_; rintro e w' ⟨he, hw⟩; subst hw; rw [e3] at he; subst he))
        go_ret
        exact ⟨d, rfl, HD.out.trans (by unfold withCellM; rw [e3, Bool.and_false]; rfl), H.pick (.cons (by repeat (first | exact Take.head | apply Take.tail)) (.cons (by repeat (first | exact Take.head | apply Take.tail)) .nil))⟩
      · have hv := e3
        have H := Hp.start W0
        go_enter Try.func32, Try.ntmps32
        go_wp2_with (first
          | go_skip
          | ((with_reducible refine at_box ?_); first | (refine wpList_box_H rfl rfl H rfl (by first | exact CellsOf.agg | exact CellsOf.int | exact CellsOf.bool | exact CellsOf.slice | exact CellsOf.string | exact CellsOf.pointer | exact CellsOf.func) ?_; clear H; intro b w H))
          | ((with_reducible refine at_alloc ?_); first | (refine wpList_alloc_H rfl rfl H ?_; clear H; intro b w H))
          | ((with_reducible refine at_load ?_); first | (refine wpList_load_rd rfl rfl d (H.rdrows (by repeat (first | exact Take.head | apply Take.tail))) rfl q HQ.out rfl ?_) | (refine wpList_load_rd rfl rfl s (R.at_ H) rfl r HR.out rfl ?_) | (refine wpList_load_H rfl rfl H rfl (by repeat (first | exact LoadAt.here rfl | apply LoadAt.there)) ?_) | (refine wpList_loads_H rfl rfl H rfl (by repeat (first | (apply LoadsAt.here; repeat (first | exact GetsAt.nil | apply GetsAt.here | apply GetsAt.there)) | apply LoadsAt.there)) ?_))
          | ((with_reducible refine at_store ?_); first | (refine wpList_store_el (enc := icell) (sz := 1) rfl rfl H q (by repeat (first | exact Take.head | apply Take.tail)) int_len rfl rfl x v HXQ.out (by first | exact CellsOf.agg | exact CellsOf.int | exact CellsOf.bool | exact CellsOf.slice | exact CellsOf.string | exact CellsOf.pointer | exact CellsOf.func) (by repeat (first | exact SetsAt.nil | apply SetsAt.here | apply SetsAt.there)) (by exact rfl) (by exact rfl) (by exact rfl) ?_; clear H; intro w H) | (refine wpList_store_H rfl rfl H rfl rfl (by repeat (first | (apply StoreAt.here; (first | exact CellsOf.agg | exact CellsOf.int | exact CellsOf.bool | exact CellsOf.slice | exact CellsOf.string | exact CellsOf.pointer | exact CellsOf.func); (repeat (first | exact SetsAt.nil | apply SetsAt.here | apply SetsAt.there)); exact rfl; exact rfl) | apply StoreAt.there)) ?_; clear H; intro w H))
          | ((with_reducible refine at_index ?_); first | (refine wpList_index_n rfl rfl d (H.rdrows (by repeat (first | exact Take.head | apply Take.tail))) rfl rfl rfl (by rw [HDL.out]; exact hk) ?_) | (refine wpList_index_n rfl rfl q (H.rd (e := 3) (by repeat (first | exact Take.head | apply Take.tail)) int_len) rfl rfl rfl hjq ?_) | (refine wpList_index_n rfl rfl s (R.at_ H) rfl rfl rfl hk ?_))
          | (go_at_call 54; refine (copyMem_c s _ (R.at_ H) (fun x hx => (Ri x hx).at_ H) Z Zi).mono ?_; rintro e w ⟨d, rfl, x1, K⟩; have HD := Lib.hid x1; clear x1; replace H := H.add_all K; clear K; obtain ⟨q, l1, l2, HQ, HQX, HL, HL1, HDL, H⟩ := mem_split HD HR H; have HXQ : Hid (q.xs[j]? = some x) := (by show q.xs[j]? = some x; rw [HQX.out]; exact HX.out); have hjq : j < q.xs.length := (by rw [HQX.out]; exact hj))
          | (go_at_call 30; refine (has_any _ _ _).mono ?_; rintro e w' ⟨he, hw⟩; subst hw; rw [HB.out] at he; subst he)
          | (go_at_call 30; refine (has_any _ _ _).mono ?_; rintro e w' ⟨he, hw⟩; subst hw; rw [HC.out] at he; subst he)
          | (go_at_call 31; refine (within_any _ _ _ _).mono ?_; rintro e w' ⟨he, hw⟩; subst hw; rw [e3] at he; subst he))
        go_ret
        have HV : Hid (withCellM (memOf s) k j v = (memOf s).set k (r.xs.set j v)) := by
          show withCellM (memOf s) k j v = _
          unfold withCellM; rw [cellOk_hit HR.out, HC.out, e3, row_at HR.out]; rfl
        have H1 := Hp.row_set HL.out (q.xs.set j v) (by simp) (H.pick (M := [.int ⟨q.A, q.c, q.xs.set j v⟩, .many En.int l1, .many En.int l2, .rows d]) (.cons (by repeat (first | exact Take.head | apply Take.tail)) (.cons (by repeat (first | exact Take.head | apply Take.tail)) (.cons (by repeat (first | exact Take.head | apply Take.tail)) (.cons (by repeat (first | exact Take.head | apply Take.tail)) .nil)))))
        refine ⟨⟨d.A, d.c, l1 ++ ⟨q.A, q.c, q.xs.set j v⟩ :: l2⟩, ?_, ?_, H1⟩
        · rw [HL.out]; simp
        · rw [HV.out, ← show d.xs.map (fun x => x.xs) = memOf s from HD.out, HL.out, ← HQX.out]
          have := HL1.out; subst this
          simp
    · have HC : Hid (hasB c (r.xs.length : Int) = false) := hasB_not hc
      have H := Hp.start W0
      go_enter Try.func32, Try.ntmps32
      go_wp2_with (first
        | go_skip
        | ((with_reducible refine at_box ?_); first | (refine wpList_box_H rfl rfl H rfl (by first | exact CellsOf.agg | exact CellsOf.int | exact CellsOf.bool | exact CellsOf.slice | exact CellsOf.string | exact CellsOf.pointer | exact CellsOf.func) ?_; clear H; intro b w H))
        | ((with_reducible refine at_alloc ?_); first | (refine wpList_alloc_H rfl rfl H ?_; clear H; intro b w H))
        | ((with_reducible refine at_load ?_); first | (refine wpList_load_rd rfl rfl s (R.at_ H) rfl r HR.out rfl ?_) | (refine wpList_load_H rfl rfl H rfl (by repeat (first | exact LoadAt.here rfl | apply LoadAt.there)) ?_) | (refine wpList_loads_H rfl rfl H rfl (by repeat (first | (apply LoadsAt.here; repeat (first | exact GetsAt.nil | apply GetsAt.here | apply GetsAt.there)) | apply LoadsAt.there)) ?_))
        | ((with_reducible refine at_store ?_); first | (refine wpList_store_H rfl rfl H rfl rfl (by repeat (first | (apply StoreAt.here; (first | exact CellsOf.agg | exact CellsOf.int | exact CellsOf.bool | exact CellsOf.slice | exact CellsOf.string | exact CellsOf.pointer | exact CellsOf.func); (repeat (first | exact SetsAt.nil | apply SetsAt.here | apply SetsAt.there)); exact rfl; exact rfl) | apply StoreAt.there)) ?_; clear H; intro w H))
        | ((with_reducible refine at_index ?_); first | (refine wpList_index_n rfl rfl s (R.at_ H) rfl rfl rfl hk ?_))
        | (go_at_call 54; refine (copyMem_c s _ (R.at_ H) (fun x hx => (Ri x hx).at_ H) Z Zi).mono ?_; rintro e w ⟨d, rfl, x1, K⟩; have HD := Lib.hid x1; clear x1; replace H := H.add_all K; clear K; skip)
        | (go_at_call 30; refine (has_any _ _ _).mono ?_; rintro e w' ⟨he, hw⟩; subst hw; rw [HB.out] at he; subst he)
        | (go_at_call 30; refine (has_any _ _ _).mono ?_; rintro e w' ⟨he, hw⟩; subst hw; rw [HC.out] at he; subst he)
        | (go_at_call 31; refine (within_any _ _ _ _).mono ?_; rintro e w' ⟨he, hw⟩; subst hw; rw [e3] at he; subst he))
      go_ret
      exact ⟨d, rfl, HD.out.trans (by unfold withCellM; rw [cellOk_hit HR.out, HC.out]; rfl), H.pick (.cons (by repeat (first | exact Take.head | apply Take.tail)) (.cons (by repeat (first | exact Take.head | apply Take.tail)) .nil))⟩
  · have HB : Hid (hasB p (s.xs.length : Int) = false) := hasB_not hp
    have H := Hp.start W0
    go_enter Try.func32, Try.ntmps32
    go_wp2_with (first
      | go_skip
      | ((with_reducible refine at_box ?_); first | (refine wpList_box_H rfl rfl H rfl (by first | exact CellsOf.agg | exact CellsOf.int | exact CellsOf.bool | exact CellsOf.slice | exact CellsOf.string | exact CellsOf.pointer | exact CellsOf.func) ?_; clear H; intro b w H))
      | ((with_reducible refine at_alloc ?_); first | (refine wpList_alloc_H rfl rfl H ?_; clear H; intro b w H))
      | ((with_reducible refine at_load ?_); first | (refine wpList_load_H rfl rfl H rfl (by repeat (first | exact LoadAt.here rfl | apply LoadAt.there)) ?_) | (refine wpList_loads_H rfl rfl H rfl (by repeat (first | (apply LoadsAt.here; repeat (first | exact GetsAt.nil | apply GetsAt.here | apply GetsAt.there)) | apply LoadsAt.there)) ?_))
      | ((with_reducible refine at_store ?_); first | (refine wpList_store_H rfl rfl H rfl rfl (by repeat (first | (apply StoreAt.here; (first | exact CellsOf.agg | exact CellsOf.int | exact CellsOf.bool | exact CellsOf.slice | exact CellsOf.string | exact CellsOf.pointer | exact CellsOf.func); (repeat (first | exact SetsAt.nil | apply SetsAt.here | apply SetsAt.there)); exact rfl; exact rfl) | apply StoreAt.there)) ?_; clear H; intro w H))
      | (go_at_call 54; refine (copyMem_c s _ (R.at_ H) (fun x hx => (Ri x hx).at_ H) Z Zi).mono ?_; rintro e w ⟨d, rfl, x1, K⟩; have HD := Lib.hid x1; clear x1; replace H := H.add_all K; clear K; skip)
      | (go_at_call 30; refine (has_any _ _ _).mono ?_; rintro e w' ⟨he, hw⟩; subst hw; rw [HB.out] at he; subst he))
    go_ret
    exact ⟨d, rfl, HD.out.trans (by unfold withCellM; rw [cellOk_miss hp]; rfl), H.pick (.cons (by repeat (first | exact Take.head | apply Take.tail)) (.cons (by repeat (first | exact Take.head | apply Take.tail)) .nil))⟩
set_option linter.unusedSimpArgs false in
set_option linter.unusedVariables false in
set_option maxRecDepth 100000 in
set_option maxHeartbeats 4000000 in
theorem specWithCell_c (s : Sl (Sl Int)) (p c v : Int) (W0 : World) (R : Rd hcells 1 W0 s) (Ri : ∀ x ∈ s.xs, Rd icell 1 W0 x) (Z : s.xs.length ≤ 4194304) (Zi : ∀ x ∈ s.xs, x.xs.length ≤ 4194304) : Calls Try.prog 36 #[.slice s.A s.xs.length s.c, .int .i64 p, .int .i64 c, .int .i64 v] W0 fun e w' => ∃ d : Sl (Sl Int), e = .returned (.slice d.A d.xs.length d.c) ∧ d.xs.map (fun x => x.xs) = withCellM (memOf s) p c v ∧ Hp W0 w' [.rows d, .many En.int d.xs] := by
  by_cases hp : 0 ≤ p ∧ p < s.xs.length
  · obtain ⟨k, rfl⟩ := Int.eq_ofNat_of_zero_le hp.1
    have hk : k < s.xs.length := by omega
    have HB : Hid (hasB (k : Int) (s.xs.length : Int) = true) := hasB_nat hk
    obtain ⟨r, hr⟩ : ∃ r, s.xs[k]? = some r := ⟨_, List.getElem?_eq_getElem hk⟩
    have HR := Lib.hid hr; clear hr hp
    have RR := Lib.hid (Ri r (List.mem_of_getElem? HR.out))
    have zr := Zi r (List.mem_of_getElem? HR.out)
    by_cases hc : 0 ≤ c ∧ c < r.xs.length
    · obtain ⟨j, rfl⟩ := Int.eq_ofNat_of_zero_le hc.1
      have hj : j < r.xs.length := by omega
      have HC : Hid (hasB (j : Int) (r.xs.length : Int) = true) := hasB_nat hj
      obtain ⟨x, hx⟩ : ∃ x, r.xs[j]? = some x := ⟨_, List.getElem?_eq_getElem hj⟩
      have HX := Lib.hid hx; clear hx hc
      cases e3 : inB v 0 99
      · have hv := e3
        have H := Hp.start W0
        go_enter Try.func36, Try.ntmps36
        go_wp2_with (first
          | go_skip
          | ((with_reducible refine at_box ?_); first | (refine wpList_box_H rfl rfl H rfl (by first | exact CellsOf.agg | exact CellsOf.int | exact CellsOf.bool | exact CellsOf.slice | exact CellsOf.string | exact CellsOf.pointer | exact CellsOf.func) ?_; clear H; intro b w H))
          | ((with_reducible refine at_alloc ?_); first | (refine wpList_alloc_H rfl rfl H ?_; clear H; intro b w H))
          | ((with_reducible refine at_load ?_); first | (refine wpList_load_rd rfl rfl s (R.at_ H) rfl r HR.out rfl ?_) | (refine wpList_load_H rfl rfl H rfl (by repeat (first | exact LoadAt.here rfl | apply LoadAt.there)) ?_) | (refine wpList_loads_H rfl rfl H rfl (by repeat (first | (apply LoadsAt.here; repeat (first | exact GetsAt.nil | apply GetsAt.here | apply GetsAt.there)) | apply LoadsAt.there)) ?_))
          | ((with_reducible refine at_store ?_); first | (refine wpList_store_H rfl rfl H rfl rfl (by repeat (first | (apply StoreAt.here; (first | exact CellsOf.agg | exact CellsOf.int | exact CellsOf.bool | exact CellsOf.slice | exact CellsOf.string | exact CellsOf.pointer | exact CellsOf.func); (repeat (first | exact SetsAt.nil | apply SetsAt.here | apply SetsAt.there)); exact rfl; exact rfl) | apply StoreAt.there)) ?_; clear H; intro w H))
          | ((with_reducible refine at_index ?_); first | (refine wpList_index_n rfl rfl s (R.at_ H) rfl rfl rfl hk ?_))
          | (go_at_call 60; refine (l04Copy_c s _ (R.at_ H) (fun x hx => (Ri x hx).at_ H) Z Zi).mono ?_; rintro e w ⟨d, rfl, x1, K⟩; have HD := Lib.hid x1; clear x1; replace H := H.add_all K; clear K; skip)
          | (go_at_call 42; refine (l04Has_c s _ _ _ (R.at_ H) (fun x hx => (Ri x hx).at_ H) Z Zi).mono ?_; rintro e w ⟨he, K⟩; rw [cellOk_hit HR.out, HC.out] at he; subst he; replace H := H.add_all K; clear K)
          | (go_at_call 35; (with_reducible refine at_arg3 (.int .i64 v) ?_); refine (in_any _ _ _ _).mono ?_; rintro e w' ⟨he, hw⟩; subst hw; rw [e3] at he; subst he))
        go_ret
        exact ⟨d, rfl, HD.out.trans (by unfold withCellM; rw [e3, Bool.and_false]; rfl), H.pick (.cons (by repeat (first | exact Take.head | apply Take.tail)) (.cons (by repeat (first | exact Take.head | apply Take.tail)) .nil))⟩
      · have hv := e3
        have H := Hp.start W0
        go_enter Try.func36, Try.ntmps36
        go_wp2_with (first
          | go_skip
          | ((with_reducible refine at_box ?_); first | (refine wpList_box_H rfl rfl H rfl (by first | exact CellsOf.agg | exact CellsOf.int | exact CellsOf.bool | exact CellsOf.slice | exact CellsOf.string | exact CellsOf.pointer | exact CellsOf.func) ?_; clear H; intro b w H))
          | ((with_reducible refine at_alloc ?_); first | (refine wpList_alloc_H rfl rfl H ?_; clear H; intro b w H))
          | ((with_reducible refine at_load ?_); first | (refine wpList_load_rd rfl rfl d (H.rdrows (by repeat (first | exact Take.head | apply Take.tail))) rfl q HQ.out rfl ?_) | (refine wpList_load_rd rfl rfl s (R.at_ H) rfl r HR.out rfl ?_) | (refine wpList_load_H rfl rfl H rfl (by repeat (first | exact LoadAt.here rfl | apply LoadAt.there)) ?_) | (refine wpList_loads_H rfl rfl H rfl (by repeat (first | (apply LoadsAt.here; repeat (first | exact GetsAt.nil | apply GetsAt.here | apply GetsAt.there)) | apply LoadsAt.there)) ?_))
          | ((with_reducible refine at_store ?_); first | (refine wpList_store_el (enc := icell) (sz := 1) rfl rfl H q (by repeat (first | exact Take.head | apply Take.tail)) int_len rfl rfl x v HXQ.out (by first | exact CellsOf.agg | exact CellsOf.int | exact CellsOf.bool | exact CellsOf.slice | exact CellsOf.string | exact CellsOf.pointer | exact CellsOf.func) (by repeat (first | exact SetsAt.nil | apply SetsAt.here | apply SetsAt.there)) (by exact rfl) (by exact rfl) (by exact rfl) ?_; clear H; intro w H) | (refine wpList_store_H rfl rfl H rfl rfl (by repeat (first | (apply StoreAt.here; (first | exact CellsOf.agg | exact CellsOf.int | exact CellsOf.bool | exact CellsOf.slice | exact CellsOf.string | exact CellsOf.pointer | exact CellsOf.func); (repeat (first | exact SetsAt.nil | apply SetsAt.here | apply SetsAt.there)); exact rfl; exact rfl) | apply StoreAt.there)) ?_; clear H; intro w H))
          | ((with_reducible refine at_index ?_); first | (refine wpList_index_n rfl rfl d (H.rdrows (by repeat (first | exact Take.head | apply Take.tail))) rfl rfl rfl (by rw [HDL.out]; exact hk) ?_) | (refine wpList_index_n rfl rfl q (H.rd (e := 3) (by repeat (first | exact Take.head | apply Take.tail)) int_len) rfl rfl rfl hjq ?_) | (refine wpList_index_n rfl rfl s (R.at_ H) rfl rfl rfl hk ?_))
          | (go_at_call 60; refine (l04Copy_c s _ (R.at_ H) (fun x hx => (Ri x hx).at_ H) Z Zi).mono ?_; rintro e w ⟨d, rfl, x1, K⟩; have HD := Lib.hid x1; clear x1; replace H := H.add_all K; clear K; obtain ⟨q, l1, l2, HQ, HQX, HL, HL1, HDL, H⟩ := mem_split HD HR H; have HXQ : Hid (q.xs[j]? = some x) := (by show q.xs[j]? = some x; rw [HQX.out]; exact HX.out); have hjq : j < q.xs.length := (by rw [HQX.out]; exact hj))
          | (go_at_call 42; refine (l04Has_c s _ _ _ (R.at_ H) (fun x hx => (Ri x hx).at_ H) Z Zi).mono ?_; rintro e w ⟨he, K⟩; rw [cellOk_hit HR.out, HC.out] at he; subst he; replace H := H.add_all K; clear K)
          | (go_at_call 35; (with_reducible refine at_arg3 (.int .i64 v) ?_); refine (in_any _ _ _ _).mono ?_; rintro e w' ⟨he, hw⟩; subst hw; rw [e3] at he; subst he))
        go_ret
        have HV : Hid (withCellM (memOf s) k j v = (memOf s).set k (r.xs.set j v)) := by
          show withCellM (memOf s) k j v = _
          unfold withCellM; rw [cellOk_hit HR.out, HC.out, e3, row_at HR.out]; rfl
        have H1 := Hp.row_set HL.out (q.xs.set j v) (by simp) (H.pick (M := [.int ⟨q.A, q.c, q.xs.set j v⟩, .many En.int l1, .many En.int l2, .rows d]) (.cons (by repeat (first | exact Take.head | apply Take.tail)) (.cons (by repeat (first | exact Take.head | apply Take.tail)) (.cons (by repeat (first | exact Take.head | apply Take.tail)) (.cons (by repeat (first | exact Take.head | apply Take.tail)) .nil)))))
        refine ⟨⟨d.A, d.c, l1 ++ ⟨q.A, q.c, q.xs.set j v⟩ :: l2⟩, ?_, ?_, H1⟩
        · rw [HL.out]; simp
        · rw [HV.out, ← show d.xs.map (fun x => x.xs) = memOf s from HD.out, HL.out, ← HQX.out]
          have := HL1.out; subst this
          simp
    · have HC : Hid (hasB c (r.xs.length : Int) = false) := hasB_not hc
      have H := Hp.start W0
      go_enter Try.func36, Try.ntmps36
      go_wp2_with (first
        | go_skip
        | ((with_reducible refine at_box ?_); first | (refine wpList_box_H rfl rfl H rfl (by first | exact CellsOf.agg | exact CellsOf.int | exact CellsOf.bool | exact CellsOf.slice | exact CellsOf.string | exact CellsOf.pointer | exact CellsOf.func) ?_; clear H; intro b w H))
        | ((with_reducible refine at_alloc ?_); first | (refine wpList_alloc_H rfl rfl H ?_; clear H; intro b w H))
        | ((with_reducible refine at_load ?_); first | (refine wpList_load_rd rfl rfl s (R.at_ H) rfl r HR.out rfl ?_) | (refine wpList_load_H rfl rfl H rfl (by repeat (first | exact LoadAt.here rfl | apply LoadAt.there)) ?_) | (refine wpList_loads_H rfl rfl H rfl (by repeat (first | (apply LoadsAt.here; repeat (first | exact GetsAt.nil | apply GetsAt.here | apply GetsAt.there)) | apply LoadsAt.there)) ?_))
        | ((with_reducible refine at_store ?_); first | (refine wpList_store_H rfl rfl H rfl rfl (by repeat (first | (apply StoreAt.here; (first | exact CellsOf.agg | exact CellsOf.int | exact CellsOf.bool | exact CellsOf.slice | exact CellsOf.string | exact CellsOf.pointer | exact CellsOf.func); (repeat (first | exact SetsAt.nil | apply SetsAt.here | apply SetsAt.there)); exact rfl; exact rfl) | apply StoreAt.there)) ?_; clear H; intro w H))
        | ((with_reducible refine at_index ?_); first | (refine wpList_index_n rfl rfl s (R.at_ H) rfl rfl rfl hk ?_))
        | (go_at_call 60; refine (l04Copy_c s _ (R.at_ H) (fun x hx => (Ri x hx).at_ H) Z Zi).mono ?_; rintro e w ⟨d, rfl, x1, K⟩; have HD := Lib.hid x1; clear x1; replace H := H.add_all K; clear K; skip)
        | (go_at_call 42; refine (l04Has_c s _ _ _ (R.at_ H) (fun x hx => (Ri x hx).at_ H) Z Zi).mono ?_; rintro e w ⟨he, K⟩; rw [cellOk_hit HR.out, HC.out] at he; subst he; replace H := H.add_all K; clear K)
        | (go_at_call 35; (with_reducible refine at_arg3 (.int .i64 v) ?_); refine (in_any _ _ _ _).mono ?_; rintro e w' ⟨he, hw⟩; subst hw; rw [e3] at he; subst he))
      go_ret
      exact ⟨d, rfl, HD.out.trans (by unfold withCellM; rw [cellOk_hit HR.out, HC.out]; rfl), H.pick (.cons (by repeat (first | exact Take.head | apply Take.tail)) (.cons (by repeat (first | exact Take.head | apply Take.tail)) .nil))⟩
  · have HB : Hid (hasB p (s.xs.length : Int) = false) := hasB_not hp
    have H := Hp.start W0
    go_enter Try.func36, Try.ntmps36
    go_wp2_with (first
      | go_skip
      | ((with_reducible refine at_box ?_); first | (refine wpList_box_H rfl rfl H rfl (by first | exact CellsOf.agg | exact CellsOf.int | exact CellsOf.bool | exact CellsOf.slice | exact CellsOf.string | exact CellsOf.pointer | exact CellsOf.func) ?_; clear H; intro b w H))
      | ((with_reducible refine at_alloc ?_); first | (refine wpList_alloc_H rfl rfl H ?_; clear H; intro b w H))
      | ((with_reducible refine at_load ?_); first | (refine wpList_load_H rfl rfl H rfl (by repeat (first | exact LoadAt.here rfl | apply LoadAt.there)) ?_) | (refine wpList_loads_H rfl rfl H rfl (by repeat (first | (apply LoadsAt.here; repeat (first | exact GetsAt.nil | apply GetsAt.here | apply GetsAt.there)) | apply LoadsAt.there)) ?_))
      | ((with_reducible refine at_store ?_); first | (refine wpList_store_H rfl rfl H rfl rfl (by repeat (first | (apply StoreAt.here; (first | exact CellsOf.agg | exact CellsOf.int | exact CellsOf.bool | exact CellsOf.slice | exact CellsOf.string | exact CellsOf.pointer | exact CellsOf.func); (repeat (first | exact SetsAt.nil | apply SetsAt.here | apply SetsAt.there)); exact rfl; exact rfl) | apply StoreAt.there)) ?_; clear H; intro w H))
      | (go_at_call 60; refine (l04Copy_c s _ (R.at_ H) (fun x hx => (Ri x hx).at_ H) Z Zi).mono ?_; rintro e w ⟨d, rfl, x1, K⟩; have HD := Lib.hid x1; clear x1; replace H := H.add_all K; clear K; skip)
      | (go_at_call 42; refine (l04Has_c s _ _ _ (R.at_ H) (fun x hx => (Ri x hx).at_ H) Z Zi).mono ?_; rintro e w ⟨he, K⟩; rw [cellOk_miss hp] at he; subst he; replace H := H.add_all K; clear K))
    go_ret
    exact ⟨d, rfl, HD.out.trans (by unfold withCellM; rw [cellOk_miss hp]; rfl), H.pick (.cons (by repeat (first | exact Take.head | apply Take.tail)) (.cons (by repeat (first | exact Take.head | apply Take.tail)) .nil))⟩
end Go.Proofs.Ytaafnenmdombiaa
