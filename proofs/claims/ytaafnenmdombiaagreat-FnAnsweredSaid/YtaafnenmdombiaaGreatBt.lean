/- Contracts of CellAt, WithCell, SlotAt, WithSlot, of the program and of the reference. No condition but that the arguments lie in memory. -/
import Derived.Test.YtaafnenmdombiaaGreatBp
import Derived.Test.YtaafnenmdombiaaGreatOk2
import Derived.Test.YtaafnenmdombiaaGreatBk
namespace Go.Proofs.YtaafnenmdombiaaGreat
set_option linter.unusedSimpArgs false
set_option linter.unusedVariables false
set_option linter.unusedSimpArgs false
set_option linter.unusedVariables false
open Go.RowKit
def rowM (m : List (List Int)) (p : Int) : List Int := (m[p.toNat]?).getD []
def cellOkM (m : List (List Int)) (p c : Int) : Bool := hasB p m.length && hasB c (rowM m p).length
def cellAtM (m : List (List Int)) (p c : Int) : Int := if cellOkM m p c then ((rowM m p)[c.toNat]?).getD 0 else 0
def withCellM (m : List (List Int)) (p c v : Int) : List (List Int) := if cellOkM m p c && inB v 0 99 then m.set p.toNat ((rowM m p).set c.toNat v) else m
def slotAtM (t : List Slot) (p : Int) : Slot := if hasB p t.length then (t[p.toNat]?).getD ⟨-1, 0⟩ else ⟨-1, 0⟩
theorem hasB_in (k n : Int) : inB k 0 (n - 1) = hasB k n := by simp only [inB, hasB]; congr 1; exact decide_eq_decide.2 (by omega)
theorem hasB_nat {k n : Nat} (h : k < n) : hasB (k : Int) (n : Int) = true := by simp [hasB, h]
theorem hasB_not {k : Int} {n : Nat} (h : ¬ (0 ≤ k ∧ k < n)) : hasB k (n : Int) = false := by simp [hasB]; omega
section
variable {s : Sl (Sl Int)} {k : Nat} {r : Sl Int}
theorem row_at (hr : s.xs[k]? = some r) : rowM (memOf s) k = r.xs := by simp [rowM, memOf, hr]
theorem cellOk_hit (hr : s.xs[k]? = some r) (c : Int) : cellOkM (memOf s) k c = hasB c r.xs.length := by
  have hk : k < s.xs.length := (List.getElem?_eq_some_iff.1 hr).1
  unfold cellOkM; rw [row_at hr]; simp [memOf, hasB_nat hk]
theorem cellOk_miss {p : Int} (h : ¬ (0 ≤ p ∧ p < s.xs.length)) (c : Int) : cellOkM (memOf s) p c = false := by
  unfold cellOkM memOf; rw [List.length_map, hasB_not h]; rfl
end
theorem Hp.many_at {w0 w : World} {L : List En} {α : Type} {f : α → En} {l : List α} {k : Nat} {r : α} (hr : l[k]? = some r) (H : Hp w0 w (.many f l :: L)) : ∃ l1 l2, l = l1 ++ r :: l2 ∧ l1.length = k ∧ Hp w0 w (f r :: .many f l1 :: .many f l2 :: L) := by
  have hk : k < l.length := (List.getElem?_eq_some_iff.1 hr).1
  have e : l = l.take k ++ r :: l.drop (k + 1) := by rw [← drop_cons hr]; exact (List.take_append_drop _ _).symm
  refine ⟨l.take k, l.drop (k + 1), e, by rw [List.length_take]; omega, ?_⟩
  rw [e] at H
  exact H.many_split
/-- A row of rows of the call's own, one of which has turned within its block. -/
theorem Hp.row_set {w0 w : World} {L : List En} {d : Sl (Sl Int)} {l1 l2 : List (Sl Int)} {r : Sl Int} (e : d.xs = l1 ++ r :: l2) (xs : List Int) (hl : xs.length = r.xs.length) (H : Hp w0 w (.int ⟨r.A, r.c, xs⟩ :: .many En.int l1 :: .many En.int l2 :: .rows d :: L)) :
    Hp w0 w (.rows ⟨d.A, d.c, l1 ++ ⟨r.A, r.c, xs⟩ :: l2⟩ :: .many En.int (l1 ++ ⟨r.A, r.c, xs⟩ :: l2) :: L) := by
  have H1 := (Hp.many_join (f := En.int) H).recode (.tail .head) (l1 ++ ⟨r.A, r.c, xs⟩ :: l2) (by rw [e]; simp) (by rw [e]; simp [hcells, hl])
  exact H1
theorem mem_split {w0 w : World} {L : List En} {s d : Sl (Sl Int)} {k : Nat} {r : Sl Int} (HD : Hid (d.xs.map (fun x => x.xs) = s.xs.map (fun x => x.xs))) (HR : Hid (s.xs[k]? = some r)) (H : Hp w0 w (.rows d :: .many En.int d.xs :: L)) :
    ∃ q l1 l2, Hid (d.xs[k]? = some q) ∧ Hid (q.xs = r.xs) ∧ Hid (d.xs = l1 ++ q :: l2) ∧ Hid (l1.length = k) ∧ Hid (d.xs.length = s.xs.length) ∧ Hp w0 w (.int q :: .many En.int l1 :: .many En.int l2 :: .rows d :: L) := by
  have e0 := HD.out
  have hl : d.xs.length = s.xs.length := by have h := congrArg List.length e0; simpa using h
  have hk : k < s.xs.length := (List.getElem?_eq_some_iff.1 HR.out).1
  obtain ⟨q, hq⟩ : ∃ q, d.xs[k]? = some q := ⟨_, List.getElem?_eq_getElem (by rw [hl]; exact hk)⟩
  have hx : q.xs = r.xs := by have h := congrArg (fun l => l[k]?) e0; simp only [List.getElem?_map, hq, HR.out, Option.map_some, Option.some.injEq] at h; exact h
  obtain ⟨l1, l2, h1, h2, H1⟩ := Hp.many_at hq (H.perm (List.Perm.swap _ _ _))
  exact ⟨q, l1, l2, hq, hx, h1, h2, hl, H1⟩
set_option maxRecDepth 100000 in
set_option maxHeartbeats 4000000 in
theorem l04Has_c (s : Sl (Sl Int)) (p c : Int) (W0 : World) (R : Rd hcells 1 W0 s) (Ri : ∀ x ∈ s.xs, Rd icell 1 W0 x) (Z : s.xs.length ≤ 4194304) (Zi : ∀ x ∈ s.xs, x.xs.length ≤ 4194304) : Calls Tryz.prog 178 #[.slice s.A s.xs.length s.c, .int .i64 p, .int .i64 c] W0 fun e w' => e = .returned (.bool (cellOkM (memOf s) p c)) ∧ Hp W0 w' [] := by
  by_cases hp : 0 ≤ p ∧ p < s.xs.length
  · obtain ⟨k, rfl⟩ := Int.eq_ofNat_of_zero_le hp.1
    have hk : k < s.xs.length := by omega
    have HB : Hid (hasB (k : Int) (s.xs.length : Int) = true) := hasB_nat hk
    obtain ⟨r, hr⟩ : ∃ r, s.xs[k]? = some r := ⟨_, List.getElem?_eq_getElem hk⟩
    have HR := Lib.hid hr; clear hr hp
    have RR := Lib.hid (Ri r (List.mem_of_getElem? HR.out))
    have zr := Zi r (List.mem_of_getElem? HR.out)
    by_cases hc : 0 ≤ c ∧ c < r.xs.length
    · obtain ⟨j, rfl⟩ := Int.eq_ofNat_of_zero_le hc.1
      have hj : j < r.xs.length := by omega
      have HC : Hid (hasB (j : Int) (r.xs.length : Int) = true) := hasB_nat hj
      obtain ⟨x, hx⟩ : ∃ x, r.xs[j]? = some x := ⟨_, List.getElem?_eq_getElem hj⟩
      have HX := Lib.hid hx; clear hx hc
      have H := Hp.start W0
      go_enter Tryz.func178, Tryz.ntmps178
      go_wp2_with (first
        | go_skip
        | ((with_reducible refine at_box ?_); first | (refine wpList_box_H rfl rfl H rfl (by constructor) ?_; clear H; intro b w H))
        | ((with_reducible refine at_alloc ?_); first | (refine wpList_alloc_H rfl rfl H ?_; clear H; intro b w H))
        | ((with_reducible refine at_load ?_); first | (refine wpList_load_rd rfl rfl s (R.at_ H) rfl r HR.out rfl ?_) | (refine wpList_load_H rfl rfl H rfl (by repeat constructor) ?_) | (refine wpList_loads_H rfl rfl H rfl (by repeat constructor) ?_))
        | ((with_reducible refine at_store ?_); first | (refine wpList_store_H rfl rfl H rfl rfl (by repeat constructor) ?_; clear H; intro w H))
        | ((with_reducible refine at_index ?_); first | (refine wpList_index_n rfl rfl s (R.at_ H) rfl rfl rfl hk ?_))
        | (go_at_call 78; refine (in_any _ _ _ _).mono ?_; rintro e w' ⟨he, hw⟩; subst hw; rw [hasB_in] at he; rw [HB.out] at he; subst he)
        | (go_at_call 78; refine (in_any _ _ _ _).mono ?_; rintro e w' ⟨he, hw⟩; subst hw; rw [hasB_in] at he; rw [HC.out] at he; subst he))
      go_ret
      exact ⟨ret_bool (by rw [cellOk_hit HR.out, HC.out]), H⟩
    · have HC : Hid (hasB c (r.xs.length : Int) = false) := hasB_not hc
      have H := Hp.start W0
      go_enter Tryz.func178, Tryz.ntmps178
      go_wp2_with (first
        | go_skip
        | ((with_reducible refine at_box ?_); first | (refine wpList_box_H rfl rfl H rfl (by constructor) ?_; clear H; intro b w H))
        | ((with_reducible refine at_alloc ?_); first | (refine wpList_alloc_H rfl rfl H ?_; clear H; intro b w H))
        | ((with_reducible refine at_load ?_); first | (refine wpList_load_rd rfl rfl s (R.at_ H) rfl r HR.out rfl ?_) | (refine wpList_load_H rfl rfl H rfl (by repeat constructor) ?_) | (refine wpList_loads_H rfl rfl H rfl (by repeat constructor) ?_))
        | ((with_reducible refine at_store ?_); first | (refine wpList_store_H rfl rfl H rfl rfl (by repeat constructor) ?_; clear H; intro w H))
        | ((with_reducible refine at_index ?_); first | (refine wpList_index_n rfl rfl s (R.at_ H) rfl rfl rfl hk ?_))
        | (go_at_call 78; refine (in_any _ _ _ _).mono ?_; rintro e w' ⟨he, hw⟩; subst hw; rw [hasB_in] at he; rw [HB.out] at he; subst he)
        | (go_at_call 78; refine (in_any _ _ _ _).mono ?_; rintro e w' ⟨he, hw⟩; subst hw; rw [hasB_in] at he; rw [HC.out] at he; subst he))
      go_ret
      exact ⟨ret_bool (by rw [cellOk_hit HR.out, HC.out]), H⟩
  · have HB : Hid (hasB p (s.xs.length : Int) = false) := hasB_not hp
    have H := Hp.start W0
    go_enter Tryz.func178, Tryz.ntmps178
    go_wp2_with (first
      | go_skip
      | ((with_reducible refine at_box ?_); first | (refine wpList_box_H rfl rfl H rfl (by constructor) ?_; clear H; intro b w H))
      | ((with_reducible refine at_alloc ?_); first | (refine wpList_alloc_H rfl rfl H ?_; clear H; intro b w H))
      | ((with_reducible refine at_load ?_); first | (refine wpList_load_H rfl rfl H rfl (by repeat constructor) ?_) | (refine wpList_loads_H rfl rfl H rfl (by repeat constructor) ?_))
      | ((with_reducible refine at_store ?_); first | (refine wpList_store_H rfl rfl H rfl rfl (by repeat constructor) ?_; clear H; intro w H))
      | (go_at_call 78; refine (in_any _ _ _ _).mono ?_; rintro e w' ⟨he, hw⟩; subst hw; rw [hasB_in] at he; rw [HB.out] at he; subst he))
    go_ret
    exact ⟨ret_bool (by rw [cellOk_miss hp]), H⟩
set_option maxRecDepth 100000 in
set_option maxHeartbeats 4000000 in
theorem cellAt_c (s : Sl (Sl Int)) (p c : Int) (W0 : World) (R : Rd hcells 1 W0 s) (Ri : ∀ x ∈ s.xs, Rd icell 1 W0 x) (Z : s.xs.length ≤ 4194304) (Zi : ∀ x ∈ s.xs, x.xs.length ≤ 4194304) : Calls Tryz.prog 126 #[.slice s.A s.xs.length s.c, .int .i64 p, .int .i64 c] W0 fun e w' => e = .returned (.int .i64 (cellAtM (memOf s) p c)) ∧ Hp W0 w' [] := by
  by_cases hp : 0 ≤ p ∧ p < s.xs.length
  · obtain ⟨k, rfl⟩ := Int.eq_ofNat_of_zero_le hp.1
    have hk : k < s.xs.length := by omega
    have HB : Hid (hasB (k : Int) (s.xs.length : Int) = true) := hasB_nat hk
    obtain ⟨r, hr⟩ : ∃ r, s.xs[k]? = some r := ⟨_, List.getElem?_eq_getElem hk⟩
    have HR := Lib.hid hr; clear hr hp
    have RR := Lib.hid (Ri r (List.mem_of_getElem? HR.out))
    have zr := Zi r (List.mem_of_getElem? HR.out)
    by_cases hc : 0 ≤ c ∧ c < r.xs.length
    · obtain ⟨j, rfl⟩ := Int.eq_ofNat_of_zero_le hc.1
      have hj : j < r.xs.length := by omega
      have HC : Hid (hasB (j : Int) (r.xs.length : Int) = true) := hasB_nat hj
      obtain ⟨x, hx⟩ : ∃ x, r.xs[j]? = some x := ⟨_, List.getElem?_eq_getElem hj⟩
      have HX := Lib.hid hx; clear hx hc
      have H := Hp.start W0
      go_enter Tryz.func126, Tryz.ntmps126
      go_wp2_with (first
        | go_skip
        | ((with_reducible refine at_box ?_); first | (refine wpList_box_H rfl rfl H rfl (by constructor) ?_; clear H; intro b w H))
        | ((with_reducible refine at_alloc ?_); first | (refine wpList_alloc_H rfl rfl H ?_; clear H; intro b w H))
        | ((with_reducible refine at_load ?_); first | (refine wpList_load_rd rfl rfl s (R.at_ H) rfl r HR.out rfl ?_) | (refine wpList_load_rd rfl rfl r (RR.out.at_ H) rfl x HX.out rfl ?_) | (refine wpList_load_H rfl rfl H rfl (by repeat constructor) ?_) | (refine wpList_loads_H rfl rfl H rfl (by repeat constructor) ?_))
        | ((with_reducible refine at_store ?_); first | (refine wpList_store_H rfl rfl H rfl rfl (by repeat constructor) ?_; clear H; intro w H))
        | ((with_reducible refine at_index ?_); first | (refine wpList_index_n rfl rfl s (R.at_ H) rfl rfl rfl hk ?_) | (refine wpList_index_n rfl rfl r (RR.out.at_ H) rfl rfl rfl hj ?_))
        | (go_at_call 133; refine (has_any _ _ _).mono ?_; rintro e w' ⟨he, hw⟩; subst hw; rw [HB.out] at he; subst he)
        | (go_at_call 133; refine (has_any _ _ _).mono ?_; rintro e w' ⟨he, hw⟩; subst hw; rw [HC.out] at he; subst he))
      go_ret
      refine ⟨ret_int ?_, H⟩
      unfold cellAtM; rw [cellOk_hit HR.out, HC.out, row_at HR.out]; simp [HX.out]
    · have HC : Hid (hasB c (r.xs.length : Int) = false) := hasB_not hc
      have H := Hp.start W0
      go_enter Tryz.func126, Tryz.ntmps126
      go_wp2_with (first
        | go_skip
        | ((with_reducible refine at_box ?_); first | (refine wpList_box_H rfl rfl H rfl (by constructor) ?_; clear H; intro b w H))
        | ((with_reducible refine at_alloc ?_); first | (refine wpList_alloc_H rfl rfl H ?_; clear H; intro b w H))
        | ((with_reducible refine at_load ?_); first | (refine wpList_load_rd rfl rfl s (R.at_ H) rfl r HR.out rfl ?_) | (refine wpList_load_H rfl rfl H rfl (by repeat constructor) ?_) | (refine wpList_loads_H rfl rfl H rfl (by repeat constructor) ?_))
        | ((with_reducible refine at_store ?_); first | (refine wpList_store_H rfl rfl H rfl rfl (by repeat constructor) ?_; clear H; intro w H))
        | ((with_reducible refine at_index ?_); first | (refine wpList_index_n rfl rfl s (R.at_ H) rfl rfl rfl hk ?_))
        | (go_at_call 133; refine (has_any _ _ _).mono ?_; rintro e w' ⟨he, hw⟩; subst hw; rw [HB.out] at he; subst he)
        | (go_at_call 133; refine (has_any _ _ _).mono ?_; rintro e w' ⟨he, hw⟩; subst hw; rw [HC.out] at he; subst he))
      go_ret
      refine ⟨ret_int ?_, H⟩
      unfold cellAtM; rw [cellOk_hit HR.out, HC.out]; rfl
  · have HB : Hid (hasB p (s.xs.length : Int) = false) := hasB_not hp
    have H := Hp.start W0
    go_enter Tryz.func126, Tryz.ntmps126
    go_wp2_with (first
      | go_skip
      | ((with_reducible refine at_box ?_); first | (refine wpList_box_H rfl rfl H rfl (by constructor) ?_; clear H; intro b w H))
      | ((with_reducible refine at_alloc ?_); first | (refine wpList_alloc_H rfl rfl H ?_; clear H; intro b w H))
      | ((with_reducible refine at_load ?_); first | (refine wpList_load_H rfl rfl H rfl (by repeat constructor) ?_) | (refine wpList_loads_H rfl rfl H rfl (by repeat constructor) ?_))
      | ((with_reducible refine at_store ?_); first | (refine wpList_store_H rfl rfl H rfl rfl (by repeat constructor) ?_; clear H; intro w H))
      | (go_at_call 133; refine (has_any _ _ _).mono ?_; rintro e w' ⟨he, hw⟩; subst hw; rw [HB.out] at he; subst he))
    go_ret
    refine ⟨ret_int ?_, H⟩
    unfold cellAtM; rw [cellOk_miss hp]; rfl
set_option maxRecDepth 100000 in
set_option maxHeartbeats 4000000 in
theorem specCellAt_c (s : Sl (Sl Int)) (p c : Int) (W0 : World) (R : Rd hcells 1 W0 s) (Ri : ∀ x ∈ s.xs, Rd icell 1 W0 x) (Z : s.xs.length ≤ 4194304) (Zi : ∀ x ∈ s.xs, x.xs.length ≤ 4194304) : Calls Tryz.prog 107 #[.slice s.A s.xs.length s.c, .int .i64 p, .int .i64 c] W0 fun e w' => e = .returned (.int .i64 (cellAtM (memOf s) p c)) ∧ Hp W0 w' [] := by
  by_cases hp : 0 ≤ p ∧ p < s.xs.length
  · obtain ⟨k, rfl⟩ := Int.eq_ofNat_of_zero_le hp.1
    have hk : k < s.xs.length := by omega
    have HB : Hid (hasB (k : Int) (s.xs.length : Int) = true) := hasB_nat hk
    obtain ⟨r, hr⟩ : ∃ r, s.xs[k]? = some r := ⟨_, List.getElem?_eq_getElem hk⟩
    have HR := Lib.hid hr; clear hr hp
    have RR := Lib.hid (Ri r (List.mem_of_getElem? HR.out))
    have zr := Zi r (List.mem_of_getElem? HR.out)
    by_cases hc : 0 ≤ c ∧ c < r.xs.length
    · obtain ⟨j, rfl⟩ := Int.eq_ofNat_of_zero_le hc.1
      have hj : j < r.xs.length := by omega
      have HC : Hid (hasB (j : Int) (r.xs.length : Int) = true) := hasB_nat hj
      obtain ⟨x, hx⟩ : ∃ x, r.xs[j]? = some x := ⟨_, List.getElem?_eq_getElem hj⟩
      have HX := Lib.hid hx; clear hx hc
      have H := Hp.start W0
      go_enter Tryz.func107, Tryz.ntmps107
      go_wp2_with (first
        | go_skip
        | ((with_reducible refine at_box ?_); first | (refine wpList_box_H rfl rfl H rfl (by constructor) ?_; clear H; intro b w H))
        | ((with_reducible refine at_alloc ?_); first | (refine wpList_alloc_H rfl rfl H ?_; clear H; intro b w H))
        | ((with_reducible refine at_load ?_); first | (refine wpList_load_rd rfl rfl s (R.at_ H) rfl r HR.out rfl ?_) | (refine wpList_load_rd rfl rfl r (RR.out.at_ H) rfl x HX.out rfl ?_) | (refine wpList_load_H rfl rfl H rfl (by repeat constructor) ?_) | (refine wpList_loads_H rfl rfl H rfl (by repeat constructor) ?_))
        | ((with_reducible refine at_store ?_); first | (refine wpList_store_H rfl rfl H rfl rfl (by repeat constructor) ?_; clear H; intro w H))
        | ((with_reducible refine at_index ?_); first | (refine wpList_index_n rfl rfl s (R.at_ H) rfl rfl rfl hk ?_) | (refine wpList_index_n rfl rfl r (RR.out.at_ H) rfl rfl rfl hj ?_))
        | (go_at_call 178; refine (l04Has_c s _ _ _ (R.at_ H) (fun x hx => (Ri x hx).at_ H) Z Zi).mono ?_; rintro e w ⟨he, K⟩; rw [cellOk_hit HR.out, HC.out] at he; subst he; replace H := H.add_all K; clear K))
      go_ret
      refine ⟨ret_int ?_, H⟩
      unfold cellAtM; rw [cellOk_hit HR.out, HC.out, row_at HR.out]; simp [HX.out]
    · have HC : Hid (hasB c (r.xs.length : Int) = false) := hasB_not hc
      have H := Hp.start W0
      go_enter Tryz.func107, Tryz.ntmps107
      go_wp2_with (first
        | go_skip
        | ((with_reducible refine at_box ?_); first | (refine wpList_box_H rfl rfl H rfl (by constructor) ?_; clear H; intro b w H))
        | ((with_reducible refine at_alloc ?_); first | (refine wpList_alloc_H rfl rfl H ?_; clear H; intro b w H))
        | ((with_reducible refine at_load ?_); first | (refine wpList_load_rd rfl rfl s (R.at_ H) rfl r HR.out rfl ?_) | (refine wpList_load_H rfl rfl H rfl (by repeat constructor) ?_) | (refine wpList_loads_H rfl rfl H rfl (by repeat constructor) ?_))
        | ((with_reducible refine at_store ?_); first | (refine wpList_store_H rfl rfl H rfl rfl (by repeat constructor) ?_; clear H; intro w H))
        | ((with_reducible refine at_index ?_); first | (refine wpList_index_n rfl rfl s (R.at_ H) rfl rfl rfl hk ?_))
        | (go_at_call 178; refine (l04Has_c s _ _ _ (R.at_ H) (fun x hx => (Ri x hx).at_ H) Z Zi).mono ?_; rintro e w ⟨he, K⟩; rw [cellOk_hit HR.out, HC.out] at he; subst he; replace H := H.add_all K; clear K))
      go_ret
      refine ⟨ret_int ?_, H⟩
      unfold cellAtM; rw [cellOk_hit HR.out, HC.out]; rfl
  · have HB : Hid (hasB p (s.xs.length : Int) = false) := hasB_not hp
    have H := Hp.start W0
    go_enter Tryz.func107, Tryz.ntmps107
    go_wp2_with (first
      | go_skip
      | ((with_reducible refine at_box ?_); first | (refine wpList_box_H rfl rfl H rfl (by constructor) ?_; clear H; intro b w H))
      | ((with_reducible refine at_alloc ?_); first | (refine wpList_alloc_H rfl rfl H ?_; clear H; intro b w H))
      | ((with_reducible refine at_load ?_); first | (refine wpList_load_H rfl rfl H rfl (by repeat constructor) ?_) | (refine wpList_loads_H rfl rfl H rfl (by repeat constructor) ?_))
      | ((with_reducible refine at_store ?_); first | (refine wpList_store_H rfl rfl H rfl rfl (by repeat constructor) ?_; clear H; intro w H))
      | (go_at_call 178; refine (l04Has_c s _ _ _ (R.at_ H) (fun x hx => (Ri x hx).at_ H) Z Zi).mono ?_; rintro e w ⟨he, K⟩; rw [cellOk_miss hp] at he; subst he; replace H := H.add_all K; clear K))
    go_ret
    refine ⟨ret_int ?_, H⟩
    unfold cellAtM; rw [cellOk_miss hp]; rfl
set_option maxRecDepth 100000 in
set_option maxHeartbeats 4000000 in
theorem withCell_c (s : Sl (Sl Int)) (p c v : Int) (W0 : World) (R : Rd hcells 1 W0 s) (Ri : ∀ x ∈ s.xs, Rd icell 1 W0 x) (Z : s.xs.length ≤ 4194304) (Zi : ∀ x ∈ s.xs, x.xs.length ≤ 4194304) : Calls Tryz.prog 122 #[.slice s.A s.xs.length s.c, .int .i64 p, .int .i64 c, .int .i64 v] W0 fun e w' => ∃ d : Sl (Sl Int), e = .returned (.slice d.A d.xs.length d.c) ∧ d.xs.map (fun x => x.xs) = withCellM (memOf s) p c v ∧ Hp W0 w' [.rows d, .many En.int d.xs] := by
  by_cases hp : 0 ≤ p ∧ p < s.xs.length
  · obtain ⟨k, rfl⟩ := Int.eq_ofNat_of_zero_le hp.1
    have hk : k < s.xs.length := by omega
    have HB : Hid (hasB (k : Int) (s.xs.length : Int) = true) := hasB_nat hk
    obtain ⟨r, hr⟩ : ∃ r, s.xs[k]? = some r := ⟨_, List.getElem?_eq_getElem hk⟩
    have HR := Lib.hid hr; clear hr hp
    have RR := Lib.hid (Ri r (List.mem_of_getElem? HR.out))
    have zr := Zi r (List.mem_of_getElem? HR.out)
    by_cases hc : 0 ≤ c ∧ c < r.xs.length
    · obtain ⟨j, rfl⟩ := Int.eq_ofNat_of_zero_le hc.1
      have hj : j < r.xs.length := by omega
      have HC : Hid (hasB (j : Int) (r.xs.length : Int) = true) := hasB_nat hj
      obtain ⟨x, hx⟩ : ∃ x, r.xs[j]? = some x := ⟨_, List.getElem?_eq_getElem hj⟩
      have HX := Lib.hid hx; clear hx hc
      cases e3 : inB v 0 99
      · have hv := e3
        have H := Hp.start W0
        go_enter Tryz.func122, Tryz.ntmps122
        go_wp2_with (first
          | go_skip
          | ((with_reducible refine at_box ?_); first | (refine wpList_box_H rfl rfl H rfl (by constructor) ?_; clear H; intro b w H))
          | ((with_reducible refine at_alloc ?_); first | (refine wpList_alloc_H rfl rfl H ?_; clear H; intro b w H))
          | ((with_reducible refine at_load ?_); first | (refine wpList_load_rd rfl rfl s (R.at_ H) rfl r HR.out rfl ?_) | (refine wpList_load_H rfl rfl H rfl (by repeat constructor) ?_) | (refine wpList_loads_H rfl rfl H rfl (by repeat constructor) ?_))
          | ((with_reducible refine at_store ?_); first | (refine wpList_store_H rfl rfl H rfl rfl (by repeat constructor) ?_; clear H; intro w H))
          | ((with_reducible refine at_index ?_); first | (refine wpList_index_n rfl rfl s (R.at_ H) rfl rfl rfl hk ?_))
          | (go_at_call 184; refine (copyMem_c s _ (R.at_ H) (fun x hx => (Ri x hx).at_ H) Z Zi).mono ?_; rintro e w ⟨d, rfl, x1, K⟩; have HD := Lib.hid x1; clear x1; replace H := H.add_all K; clear K; skip)
          | (go_at_call 133; refine (has_any _ _ _).mono ?_; rintro e w' ⟨he, hw⟩; subst hw; rw [HB.out] at he; subst he)
          | (go_at_call 133; refine (has_any _ _ _).mono ?_; rintro e w' ⟨he, hw⟩; subst hw; rw [HC.out] at he; subst he)
          | (go_at_call 72; refine (within_any _ _ _ _).mono ?_; rintro e w' ⟨he, hw⟩; subst hw; rw [e3] at he; subst he))
        go_ret
        exact ⟨d, rfl, HD.out.trans (by unfold withCellM; rw [e3, Bool.and_false]; rfl), H.pick (.cons (by repeat constructor) (.cons (by repeat constructor) .nil))⟩
      · have hv := e3
        have H := Hp.start W0
        go_enter Tryz.func122, Tryz.ntmps122
        go_wp2_with (first
          | go_skip
          | ((with_reducible refine at_box ?_); first | (refine wpList_box_H rfl rfl H rfl (by constructor) ?_; clear H; intro b w H))
          | ((with_reducible refine at_alloc ?_); first | (refine wpList_alloc_H rfl rfl H ?_; clear H; intro b w H))
          | ((with_reducible refine at_load ?_); first | (refine wpList_load_rd rfl rfl d (H.rdrows (by repeat constructor)) rfl q HQ.out rfl ?_) | (refine wpList_load_rd rfl rfl s (R.at_ H) rfl r HR.out rfl ?_) | (refine wpList_load_H rfl rfl H rfl (by repeat constructor) ?_) | (refine wpList_loads_H rfl rfl H rfl (by repeat constructor) ?_))
          | ((with_reducible refine at_store ?_); first | (refine wpList_store_el (enc := icell) (sz := 1) rfl rfl H q (by repeat constructor) int_len rfl rfl x v HXQ.out (by constructor) (by repeat constructor) (by exact rfl) (by exact rfl) (by exact rfl) ?_; clear H; intro w H) | (refine wpList_store_H rfl rfl H rfl rfl (by repeat constructor) ?_; clear H; intro w H))
          | ((with_reducible refine at_index ?_); first | (refine wpList_index_n rfl rfl d (H.rdrows (by repeat constructor)) rfl rfl rfl (by rw [HDL.out]; exact hk) ?_) | (refine wpList_index_n rfl rfl q (H.rd (e := 3) (by repeat constructor) int_len) rfl rfl rfl hjq ?_) | (refine wpList_index_n rfl rfl s (R.at_ H) rfl rfl rfl hk ?_))
          | (go_at_call 184; refine (copyMem_c s _ (R.at_ H) (fun x hx => (Ri x hx).at_ H) Z Zi).mono ?_; rintro e w ⟨d, rfl, x1, K⟩; have HD := Lib.hid x1; clear x1; replace H := H.add_all K; clear K; obtain ⟨q, l1, l2, HQ, HQX, HL, HL1, HDL, H⟩ := mem_split HD HR H; have HXQ : Hid (q.xs[j]? = some x) := (by show q.xs[j]? = some x; rw [HQX.out]; exact HX.out); have hjq : j < q.xs.length := (by rw [HQX.out]; exact hj))
          | (go_at_call 133; refine (has_any _ _ _).mono ?_; rintro e w' ⟨he, hw⟩; subst hw; rw [HB.out] at he; subst he)
          | (go_at_call 133; refine (has_any _ _ _).mono ?_; rintro e w' ⟨he, hw⟩; subst hw; rw [HC.out] at he; subst he)
          | (go_at_call 72; refine (within_any _ _ _ _).mono ?_; rintro e w' ⟨he, hw⟩; subst hw; rw [e3] at he; subst he))
        go_ret
        have HV : Hid (withCellM (memOf s) k j v = (memOf s).set k (r.xs.set j v)) := by
          show withCellM (memOf s) k j v = _
          unfold withCellM; rw [cellOk_hit HR.out, HC.out, e3, row_at HR.out]; rfl
        have H1 := Hp.row_set HL.out (q.xs.set j v) (by simp) (H.pick (M := [.int ⟨q.A, q.c, q.xs.set j v⟩, .many En.int l1, .many En.int l2, .rows d]) (.cons (by repeat constructor) (.cons (by repeat constructor) (.cons (by repeat constructor) (.cons (by repeat constructor) .nil)))))
        refine ⟨⟨d.A, d.c, l1 ++ ⟨q.A, q.c, q.xs.set j v⟩ :: l2⟩, ?_, ?_, H1⟩
        · rw [HL.out]; simp
        · rw [HV.out, ← show d.xs.map (fun x => x.xs) = memOf s from HD.out, HL.out, ← HQX.out]
          have := HL1.out; subst this
          simp
    · have HC : Hid (hasB c (r.xs.length : Int) = false) := hasB_not hc
      have H := Hp.start W0
      go_enter Tryz.func122, Tryz.ntmps122
      go_wp2_with (first
        | go_skip
        | ((with_reducible refine at_box ?_); first | (refine wpList_box_H rfl rfl H rfl (by constructor) ?_; clear H; intro b w H))
        | ((with_reducible refine at_alloc ?_); first | (refine wpList_alloc_H rfl rfl H ?_; clear H; intro b w H))
        | ((with_reducible refine at_load ?_); first | (refine wpList_load_rd rfl rfl s (R.at_ H) rfl r HR.out rfl ?_) | (refine wpList_load_H rfl rfl H rfl (by repeat constructor) ?_) | (refine wpList_loads_H rfl rfl H rfl (by repeat constructor) ?_))
        | ((with_reducible refine at_store ?_); first | (refine wpList_store_H rfl rfl H rfl rfl (by repeat constructor) ?_; clear H; intro w H))
        | ((with_reducible refine at_index ?_); first | (refine wpList_index_n rfl rfl s (R.at_ H) rfl rfl rfl hk ?_))
        | (go_at_call 184; refine (copyMem_c s _ (R.at_ H) (fun x hx => (Ri x hx).at_ H) Z Zi).mono ?_; rintro e w ⟨d, rfl, x1, K⟩; have HD := Lib.hid x1; clear x1; replace H := H.add_all K; clear K; skip)
        | (go_at_call 133; refine (has_any _ _ _).mono ?_; rintro e w' ⟨he, hw⟩; subst hw; rw [HB.out] at he; subst he)
        | (go_at_call 133; refine (has_any _ _ _).mono ?_; rintro e w' ⟨he, hw⟩; subst hw; rw [HC.out] at he; subst he)
        | (go_at_call 72; refine (within_any _ _ _ _).mono ?_; rintro e w' ⟨he, hw⟩; subst hw; rw [e3] at he; subst he))
      go_ret
      exact ⟨d, rfl, HD.out.trans (by unfold withCellM; rw [cellOk_hit HR.out, HC.out]; rfl), H.pick (.cons (by repeat constructor) (.cons (by repeat constructor) .nil))⟩
  · have HB : Hid (hasB p (s.xs.length : Int) = false) := hasB_not hp
    have H := Hp.start W0
    go_enter Tryz.func122, Tryz.ntmps122
    go_wp2_with (first
      | go_skip
      | ((with_reducible refine at_box ?_); first | (refine wpList_box_H rfl rfl H rfl (by constructor) ?_; clear H; intro b w H))
      | ((with_reducible refine at_alloc ?_); first | (refine wpList_alloc_H rfl rfl H ?_; clear H; intro b w H))
      | ((with_reducible refine at_load ?_); first | (refine wpList_load_H rfl rfl H rfl (by repeat constructor) ?_) | (refine wpList_loads_H rfl rfl H rfl (by repeat constructor) ?_))
      | ((with_reducible refine at_store ?_); first | (refine wpList_store_H rfl rfl H rfl rfl (by repeat constructor) ?_; clear H; intro w H))
      | (go_at_call 184; refine (copyMem_c s _ (R.at_ H) (fun x hx => (Ri x hx).at_ H) Z Zi).mono ?_; rintro e w ⟨d, rfl, x1, K⟩; have HD := Lib.hid x1; clear x1; replace H := H.add_all K; clear K; skip)
      | (go_at_call 133; refine (has_any _ _ _).mono ?_; rintro e w' ⟨he, hw⟩; subst hw; rw [HB.out] at he; subst he))
    go_ret
    exact ⟨d, rfl, HD.out.trans (by unfold withCellM; rw [cellOk_miss hp]; rfl), H.pick (.cons (by repeat constructor) (.cons (by repeat constructor) .nil))⟩
set_option maxRecDepth 100000 in
set_option maxHeartbeats 4000000 in
theorem specWithCell_c (s : Sl (Sl Int)) (p c v : Int) (W0 : World) (R : Rd hcells 1 W0 s) (Ri : ∀ x ∈ s.xs, Rd icell 1 W0 x) (Z : s.xs.length ≤ 4194304) (Zi : ∀ x ∈ s.xs, x.xs.length ≤ 4194304) : Calls Tryz.prog 103 #[.slice s.A s.xs.length s.c, .int .i64 p, .int .i64 c, .int .i64 v] W0 fun e w' => ∃ d : Sl (Sl Int), e = .returned (.slice d.A d.xs.length d.c) ∧ d.xs.map (fun x => x.xs) = withCellM (memOf s) p c v ∧ Hp W0 w' [.rows d, .many En.int d.xs] := by
  by_cases hp : 0 ≤ p ∧ p < s.xs.length
  · obtain ⟨k, rfl⟩ := Int.eq_ofNat_of_zero_le hp.1
    have hk : k < s.xs.length := by omega
    have HB : Hid (hasB (k : Int) (s.xs.length : Int) = true) := hasB_nat hk
    obtain ⟨r, hr⟩ : ∃ r, s.xs[k]? = some r := ⟨_, List.getElem?_eq_getElem hk⟩
    have HR := Lib.hid hr; clear hr hp
    have RR := Lib.hid (Ri r (List.mem_of_getElem? HR.out))
    have zr := Zi r (List.mem_of_getElem? HR.out)
    by_cases hc : 0 ≤ c ∧ c < r.xs.length
    · obtain ⟨j, rfl⟩ := Int.eq_ofNat_of_zero_le hc.1
      have hj : j < r.xs.length := by omega
      have HC : Hid (hasB (j : Int) (r.xs.length : Int) = true) := hasB_nat hj
      obtain ⟨x, hx⟩ : ∃ x, r.xs[j]? = some x := ⟨_, List.getElem?_eq_getElem hj⟩
      have HX := Lib.hid hx; clear hx hc
      cases e3 : inB v 0 99
      · have hv := e3
        have H := Hp.start W0
        go_enter Tryz.func103, Tryz.ntmps103
        go_wp2_with (first
          | go_skip
          | ((with_reducible refine at_box ?_); first | (refine wpList_box_H rfl rfl H rfl (by constructor) ?_; clear H; intro b w H))
          | ((with_reducible refine at_alloc ?_); first | (refine wpList_alloc_H rfl rfl H ?_; clear H; intro b w H))
          | ((with_reducible refine at_load ?_); first | (refine wpList_load_rd rfl rfl s (R.at_ H) rfl r HR.out rfl ?_) | (refine wpList_load_H rfl rfl H rfl (by repeat constructor) ?_) | (refine wpList_loads_H rfl rfl H rfl (by repeat constructor) ?_))
          | ((with_reducible refine at_store ?_); first | (refine wpList_store_H rfl rfl H rfl rfl (by repeat constructor) ?_; clear H; intro w H))
          | ((with_reducible refine at_index ?_); first | (refine wpList_index_n rfl rfl s (R.at_ H) rfl rfl rfl hk ?_))
          | (go_at_call 169; refine (l04Copy_c s _ (R.at_ H) (fun x hx => (Ri x hx).at_ H) Z Zi).mono ?_; rintro e w ⟨d, rfl, x1, K⟩; have HD := Lib.hid x1; clear x1; replace H := H.add_all K; clear K; skip)
          | (go_at_call 178; refine (l04Has_c s _ _ _ (R.at_ H) (fun x hx => (Ri x hx).at_ H) Z Zi).mono ?_; rintro e w ⟨he, K⟩; rw [cellOk_hit HR.out, HC.out] at he; subst he; replace H := H.add_all K; clear K)
          | (go_at_call 78; (with_reducible refine at_arg3 (.int .i64 v) ?_); refine (in_any _ _ _ _).mono ?_; rintro e w' ⟨he, hw⟩; subst hw; rw [e3] at he; subst he))
        go_ret
        exact ⟨d, rfl, HD.out.trans (by unfold withCellM; rw [e3, Bool.and_false]; rfl), H.pick (.cons (by repeat constructor) (.cons (by repeat constructor) .nil))⟩
      · have hv := e3
        have H := Hp.start W0
        go_enter Tryz.func103, Tryz.ntmps103
        go_wp2_with (first
          | go_skip
          | ((with_reducible refine at_box ?_); first | (refine wpList_box_H rfl rfl H rfl (by constructor) ?_; clear H; intro b w H))
          | ((with_reducible refine at_alloc ?_); first | (refine wpList_alloc_H rfl rfl H ?_; clear H; intro b w H))
          | ((with_reducible refine at_load ?_); first | (refine wpList_load_rd rfl rfl d (H.rdrows (by repeat constructor)) rfl q HQ.out rfl ?_) | (refine wpList_load_rd rfl rfl s (R.at_ H) rfl r HR.out rfl ?_) | (refine wpList_load_H rfl rfl H rfl (by repeat constructor) ?_) | (refine wpList_loads_H rfl rfl H rfl (by repeat constructor) ?_))
          | ((with_reducible refine at_store ?_); first | (refine wpList_store_el (enc := icell) (sz := 1) rfl rfl H q (by repeat constructor) int_len rfl rfl x v HXQ.out (by constructor) (by repeat constructor) (by exact rfl) (by exact rfl) (by exact rfl) ?_; clear H; intro w H) | (refine wpList_store_H rfl rfl H rfl rfl (by repeat constructor) ?_; clear H; intro w H))
          | ((with_reducible refine at_index ?_); first | (refine wpList_index_n rfl rfl d (H.rdrows (by repeat constructor)) rfl rfl rfl (by rw [HDL.out]; exact hk) ?_) | (refine wpList_index_n rfl rfl q (H.rd (e := 3) (by repeat constructor) int_len) rfl rfl rfl hjq ?_) | (refine wpList_index_n rfl rfl s (R.at_ H) rfl rfl rfl hk ?_))
          | (go_at_call 169; refine (l04Copy_c s _ (R.at_ H) (fun x hx => (Ri x hx).at_ H) Z Zi).mono ?_; rintro e w ⟨d, rfl, x1, K⟩; have HD := Lib.hid x1; clear x1; replace H := H.add_all K; clear K; obtain ⟨q, l1, l2, HQ, HQX, HL, HL1, HDL, H⟩ := mem_split HD HR H; have HXQ : Hid (q.xs[j]? = some x) := (by show q.xs[j]? = some x; rw [HQX.out]; exact HX.out); have hjq : j < q.xs.length := (by rw [HQX.out]; exact hj))
          | (go_at_call 178; refine (l04Has_c s _ _ _ (R.at_ H) (fun x hx => (Ri x hx).at_ H) Z Zi).mono ?_; rintro e w ⟨he, K⟩; rw [cellOk_hit HR.out, HC.out] at he; subst he; replace H := H.add_all K; clear K)
          | (go_at_call 78; (with_reducible refine at_arg3 (.int .i64 v) ?_); refine (in_any _ _ _ _).mono ?_; rintro e w' ⟨he, hw⟩; subst hw; rw [e3] at he; subst he))
        go_ret
        have HV : Hid (withCellM (memOf s) k j v = (memOf s).set k (r.xs.set j v)) := by
          show withCellM (memOf s) k j v = _
          unfold withCellM; rw [cellOk_hit HR.out, HC.out, e3, row_at HR.out]; rfl
        have H1 := Hp.row_set HL.out (q.xs.set j v) (by simp) (H.pick (M := [.int ⟨q.A, q.c, q.xs.set j v⟩, .many En.int l1, .many En.int l2, .rows d]) (.cons (by repeat constructor) (.cons (by repeat constructor) (.cons (by repeat constructor) (.cons (by repeat constructor) .nil)))))
        refine ⟨⟨d.A, d.c, l1 ++ ⟨q.A, q.c, q.xs.set j v⟩ :: l2⟩, ?_, ?_, H1⟩
        · rw [HL.out]; simp
        · rw [HV.out, ← show d.xs.map (fun x => x.xs) = memOf s from HD.out, HL.out, ← HQX.out]
          have := HL1.out; subst this
          simp
    · have HC : Hid (hasB c (r.xs.length : Int) = false) := hasB_not hc
      have H := Hp.start W0
      go_enter Tryz.func103, Tryz.ntmps103
      go_wp2_with (first
        | go_skip
        | ((with_reducible refine at_box ?_); first | (refine wpList_box_H rfl rfl H rfl (by constructor) ?_; clear H; intro b w H))
        | ((with_reducible refine at_alloc ?_); first | (refine wpList_alloc_H rfl rfl H ?_; clear H; intro b w H))
        | ((with_reducible refine at_load ?_); first | (refine wpList_load_rd rfl rfl s (R.at_ H) rfl r HR.out rfl ?_) | (refine wpList_load_H rfl rfl H rfl (by repeat constructor) ?_) | (refine wpList_loads_H rfl rfl H rfl (by repeat constructor) ?_))
        | ((with_reducible refine at_store ?_); first | (refine wpList_store_H rfl rfl H rfl rfl (by repeat constructor) ?_; clear H; intro w H))
        | ((with_reducible refine at_index ?_); first | (refine wpList_index_n rfl rfl s (R.at_ H) rfl rfl rfl hk ?_))
        | (go_at_call 169; refine (l04Copy_c s _ (R.at_ H) (fun x hx => (Ri x hx).at_ H) Z Zi).mono ?_; rintro e w ⟨d, rfl, x1, K⟩; have HD := Lib.hid x1; clear x1; replace H := H.add_all K; clear K; skip)
        | (go_at_call 178; refine (l04Has_c s _ _ _ (R.at_ H) (fun x hx => (Ri x hx).at_ H) Z Zi).mono ?_; rintro e w ⟨he, K⟩; rw [cellOk_hit HR.out, HC.out] at he; subst he; replace H := H.add_all K; clear K)
        | (go_at_call 78; (with_reducible refine at_arg3 (.int .i64 v) ?_); refine (in_any _ _ _ _).mono ?_; rintro e w' ⟨he, hw⟩; subst hw; rw [e3] at he; subst he))
      go_ret
      exact ⟨d, rfl, HD.out.trans (by unfold withCellM; rw [cellOk_hit HR.out, HC.out]; rfl), H.pick (.cons (by repeat constructor) (.cons (by repeat constructor) .nil))⟩
  · have HB : Hid (hasB p (s.xs.length : Int) = false) := hasB_not hp
    have H := Hp.start W0
    go_enter Tryz.func103, Tryz.ntmps103
    go_wp2_with (first
      | go_skip
      | ((with_reducible refine at_box ?_); first | (refine wpList_box_H rfl rfl H rfl (by constructor) ?_; clear H; intro b w H))
      | ((with_reducible refine at_alloc ?_); first | (refine wpList_alloc_H rfl rfl H ?_; clear H; intro b w H))
      | ((with_reducible refine at_load ?_); first | (refine wpList_load_H rfl rfl H rfl (by repeat constructor) ?_) | (refine wpList_loads_H rfl rfl H rfl (by repeat constructor) ?_))
      | ((with_reducible refine at_store ?_); first | (refine wpList_store_H rfl rfl H rfl rfl (by repeat constructor) ?_; clear H; intro w H))
      | (go_at_call 169; refine (l04Copy_c s _ (R.at_ H) (fun x hx => (Ri x hx).at_ H) Z Zi).mono ?_; rintro e w ⟨d, rfl, x1, K⟩; have HD := Lib.hid x1; clear x1; replace H := H.add_all K; clear K; skip)
      | (go_at_call 178; refine (l04Has_c s _ _ _ (R.at_ H) (fun x hx => (Ri x hx).at_ H) Z Zi).mono ?_; rintro e w ⟨he, K⟩; rw [cellOk_miss hp] at he; subst he; replace H := H.add_all K; clear K))
    go_ret
    exact ⟨d, rfl, HD.out.trans (by unfold withCellM; rw [cellOk_miss hp]; rfl), H.pick (.cons (by repeat constructor) (.cons (by repeat constructor) .nil))⟩
set_option maxRecDepth 100000 in
set_option maxHeartbeats 4000000 in
theorem slotAt_c (t : Sl Slot) (p : Int) (W0 : World) (R : Rd Slot.cells 2 W0 t) (Z : t.xs.length ≤ 4194304) : Calls Tryz.prog 140 #[.slice t.A t.xs.length t.c, .int .i64 p] W0 fun e w' => e = .returned (slotAtM t.xs p).val ∧ Hp W0 w' [] := by
  by_cases hp : 0 ≤ p ∧ p < t.xs.length
  · obtain ⟨k, rfl⟩ := Int.eq_ofNat_of_zero_le hp.1
    have hk : k < t.xs.length := by omega
    have HB : Hid (hasB (k : Int) (t.xs.length : Int) = true) := hasB_nat hk
    obtain ⟨y, hy⟩ : ∃ y, t.xs[k]? = some y := ⟨_, List.getElem?_eq_getElem hk⟩
    have HY := Lib.hid hy; clear hy hp
    have H := Hp.start W0
    go_enter Tryz.func140, Tryz.ntmps140
    go_wp2_with (first
      | go_skip
      | ((with_reducible refine at_box ?_); first | (refine wpList_box_H rfl rfl H rfl (by constructor) ?_; clear H; intro b w H))
      | ((with_reducible refine at_alloc ?_); first | (refine wpList_alloc_H rfl rfl H ?_; clear H; intro b w H))
      | ((with_reducible refine at_load ?_); first | (refine wpList_loads_rd rfl rfl t (R.at_ H) rfl y HY.out (by repeat constructor) ?_) | (refine wpList_load_H rfl rfl H rfl (by repeat constructor) ?_) | (refine wpList_loads_H rfl rfl H rfl (by repeat constructor) ?_))
      | ((with_reducible refine at_store ?_); first | (refine wpList_store_H rfl rfl H rfl rfl (by repeat constructor) ?_; clear H; intro w H))
      | ((with_reducible refine at_index ?_); first | (refine wpList_index_n rfl rfl t (R.at_ H) rfl rfl rfl hk ?_))
      | (go_at_call 133; refine (has_any _ _ _).mono ?_; rintro e w' ⟨he, hw⟩; subst hw; rw [HB.out] at he; subst he))
    refine bodyPost_ret (results_H rfl H rfl (by repeat constructor)) rfl ⟨?_, H.pick .nil⟩
    unfold slotAtM; rw [HB.out]; simp [HY.out]
  · have HB : Hid (hasB p (t.xs.length : Int) = false) := hasB_not hp
    have H := Hp.start W0
    go_enter Tryz.func140, Tryz.ntmps140
    go_wp2_with (first
      | go_skip
      | ((with_reducible refine at_box ?_); first | (refine wpList_box_H rfl rfl H rfl (by constructor) ?_; clear H; intro b w H))
      | ((with_reducible refine at_alloc ?_); first | (refine wpList_alloc_H rfl rfl H ?_; clear H; intro b w H))
      | ((with_reducible refine at_load ?_); first | (refine wpList_load_H rfl rfl H rfl (by repeat constructor) ?_) | (refine wpList_loads_H rfl rfl H rfl (by repeat constructor) ?_))
      | ((with_reducible refine at_store ?_); first | (refine wpList_store_H rfl rfl H rfl rfl (by repeat constructor) ?_; clear H; intro w H))
      | (go_at_call 133; refine (has_any _ _ _).mono ?_; rintro e w' ⟨he, hw⟩; subst hw; rw [HB.out] at he; subst he)
      | (go_at_call 193; refine (noSlot_c _).mono ?_; rintro e w ⟨rfl, hb⟩; replace H := H.still hb; clear hb))
    refine bodyPost_ret (results_H rfl H rfl (by repeat constructor)) rfl ⟨?_, H.pick .nil⟩
    unfold slotAtM; rw [HB.out]; rfl
set_option maxRecDepth 100000 in
set_option maxHeartbeats 4000000 in
theorem specSlotAt_c (t : Sl Slot) (p : Int) (W0 : World) (R : Rd Slot.cells 2 W0 t) (Z : t.xs.length ≤ 4194304) : Calls Tryz.prog 34 #[.slice t.A t.xs.length t.c, .int .i64 p] W0 fun e w' => e = .returned (slotAtM t.xs p).val ∧ Hp W0 w' [] := by
  by_cases hp : 0 ≤ p ∧ p < t.xs.length
  · obtain ⟨k, rfl⟩ := Int.eq_ofNat_of_zero_le hp.1
    have hk : k < t.xs.length := by omega
    have HB : Hid (hasB (k : Int) (t.xs.length : Int) = true) := hasB_nat hk
    obtain ⟨y, hy⟩ : ∃ y, t.xs[k]? = some y := ⟨_, List.getElem?_eq_getElem hk⟩
    have HY := Lib.hid hy; clear hy hp
    have H := Hp.start W0
    go_enter Tryz.func34, Tryz.ntmps34
    go_wp2_with (first
      | go_skip
      | ((with_reducible refine at_box ?_); first | (refine wpList_box_H rfl rfl H rfl (by constructor) ?_; clear H; intro b w H))
      | ((with_reducible refine at_alloc ?_); first | (refine wpList_alloc_H rfl rfl H ?_; clear H; intro b w H))
      | ((with_reducible refine at_load ?_); first | (refine wpList_loads_rd rfl rfl t (R.at_ H) rfl y HY.out (by repeat constructor) ?_) | (refine wpList_load_H rfl rfl H rfl (by repeat constructor) ?_) | (refine wpList_loads_H rfl rfl H rfl (by repeat constructor) ?_))
      | ((with_reducible refine at_store ?_); first | (refine wpList_store_H rfl rfl H rfl rfl (by repeat constructor) ?_; clear H; intro w H))
      | ((with_reducible refine at_index ?_); first | (refine wpList_index_n rfl rfl t (R.at_ H) rfl rfl rfl hk ?_))
      | (go_at_call 78; refine (in_any _ _ _ _).mono ?_; rintro e w' ⟨he, hw⟩; subst hw; rw [hasB_in] at he; rw [HB.out] at he; subst he))
    refine bodyPost_ret (results_H rfl H rfl (by repeat constructor)) rfl ⟨?_, H.pick .nil⟩
    unfold slotAtM; rw [HB.out]; simp [HY.out]
  · have HB : Hid (hasB p (t.xs.length : Int) = false) := hasB_not hp
    have H := Hp.start W0
    go_enter Tryz.func34, Tryz.ntmps34
    go_wp2_with (first
      | go_skip
      | ((with_reducible refine at_box ?_); first | (refine wpList_box_H rfl rfl H rfl (by constructor) ?_; clear H; intro b w H))
      | ((with_reducible refine at_alloc ?_); first | (refine wpList_alloc_H rfl rfl H ?_; clear H; intro b w H))
      | ((with_reducible refine at_load ?_); first | (refine wpList_load_H rfl rfl H rfl (by repeat constructor) ?_) | (refine wpList_loads_H rfl rfl H rfl (by repeat constructor) ?_))
      | ((with_reducible refine at_store ?_); first | (refine wpList_store_H rfl rfl H rfl rfl (by repeat constructor) ?_; clear H; intro w H))
      | (go_at_call 78; refine (in_any _ _ _ _).mono ?_; rintro e w' ⟨he, hw⟩; subst hw; rw [hasB_in] at he; rw [HB.out] at he; subst he)
      | (go_at_call 141; refine (specNoSlot_c _).mono ?_; rintro e w ⟨rfl, hb⟩; replace H := H.still hb; clear hb))
    refine bodyPost_ret (results_H rfl H rfl (by repeat constructor)) rfl ⟨?_, H.pick .nil⟩
    unfold slotAtM; rw [HB.out]; rfl
end Go.Proofs.YtaafnenmdombiaaGreat
