/- Contracts of the functions that say whether something is valid: InsOk, ProgOk, SlotOk, TableOk, CtlOk, ExitOk, GuestOk, of the program and of the reference. No condition but that the argument lies in memory. -/
import Derived.Test.YtaafnenmdombiaaGreatMk
namespace Go.Proofs.YtaafnenmdombiaaGreat
open Go.RowKit
section
variable {P : Program} {ops : Array Oper} {rest : List Oper} {o : Oper} {a : Act} {w0 w : World} {L L' : List En} {Q : Go.Exit → Act → World → Prop}
/-- The address of an element whose number is a natural number. -/
theorem wpList_index_nat (hgd : Region.wanted o (yielded ops a.tmps) = true) {t : TypeId} {x ix : Operand} (ho : o.op = .indexAddr t x ix) {α : Type} {enc : α → List Value} {sz bytes e : Nat} [hE : EI P t enc sz bytes e] (s : Sl α) (hs : Rd enc sz w s) {k : Nat} (hx : a.eval x = .slice s.A s.xs.length s.c) (hi : a.eval ix = .int .i64 k)
    (h1 : k < s.xs.length) (h : wpList P ops Q rest (a.put o.dst (.pointer (some ⟨ablk s.A, aoff s.A + k * sz, none⟩))) w) : wpList P ops Q (o :: rest) a w := by
  refine wpList_index_rd hgd ho s hs hx hi (by omega) (by omega) ?_
  simpa using h
theorem wpList_loads_rd (hgd : Region.wanted o (yielded ops a.tmps) = true) {ty : TypeId} {x : Operand} (ho : o.op = .load ty x) {α : Type} {enc : α → List Value} {sz : Nat} (s : Sl α) (hs : Rd enc sz w s) {k : Nat} (hx : a.eval x = .pointer (some ⟨ablk s.A, aoff s.A + k * sz, none⟩)) {n : Nat} [hS : TyA P ty n] (y : α) (hk : s.xs[k]? = some y) {vs : List Value} (hv : GetsAt (enc y) 0 n vs)
    (h : wpList P ops Q rest (a.put o.dst (.agg vs.toArray)) w) : wpList P ops Q (o :: rest) a w :=
  wp_of_run hgd ho (by rw [hx]; exact run_loads_rd hs hS (j := 0) hk hv) h
theorem wpList_load_rd (hgd : Region.wanted o (yielded ops a.tmps) = true) {ty : TypeId} {x : Operand} (ho : o.op = .load ty x) {α : Type} {enc : α → List Value} {sz : Nat} (s : Sl α) (hs : Rd enc sz w s) {k : Nat} (hx : a.eval x = .pointer (some ⟨ablk s.A, aoff s.A + k * sz, none⟩)) [hS : TyS P ty] (y : α) (hk : s.xs[k]? = some y) {v : Value} (hv : (enc y)[0]? = some v)
    (h : wpList P ops Q rest (a.put o.dst v) w) : wpList P ops Q (o :: rest) a w :=
  wp_of_run hgd ho (by rw [hx]; exact run_load_rd hs hS (j := 0) hk hv) h
end
theorem all_take_succ {α : Type} {p : α → Bool} {l : List α} {k : Nat} {y : α} (h : (l.take k).all p = true) (hy : l[k]? = some y) (hp : p y = true) : (l.take (k + 1)).all p = true := by
  rw [List.take_add_one, List.all_append, h, hy]; simp [hp]
theorem all_false_at {α : Type} {p : α → Bool} {l : List α} {k : Nat} {y : α} (hy : l[k]? = some y) (hp : p y = false) : l.all p = false := by
  rw [List.all_eq_false]; exact ⟨y, List.mem_of_getElem? hy, by simp [hp]⟩
def insOkM (i : Ins) : Bool :=
  if i.op = 1 ∨ i.op = 2 ∨ i.op = 5 ∨ i.op = 6 then inB i.x 0 99 else if i.op = 3 ∨ i.op = 4 then inB i.x 0 15 else if i.op = 7 then decide (i.x = 0) else if i.op = 8 then inB i.x 0 11 else false
def progOkM (p : List Ins) : Bool := p.all insOkM && inB p.length 1 12
def slotOkM (pages : Int) (s : Slot) : Bool := (decide (s.page = -1) && decide (s.rights = 0)) || (decide (0 < pages) && inB s.page 0 (wrap64 (pages - 1)) && inB s.rights 1 3)
def tableOkM (size pages : Int) (t : List Slot) : Bool := t.all (slotOkM pages) && decide ((t.length : Int) = size)
def ctlFaultsM (c : Ctl) : List Int := (if inB c.traps 0 3 then [] else [1]) ++ (if inB c.post 0 255 then [] else [2]) ++ (if decide (c.post ≠ 0) && !c.opn then [3] else []) ++ (if decide (c.traps = 2) && decide (c.post ≠ 0) then [4] else [])
def ctlOkM (c : Ctl) : Bool := decide (((ctlFaultsM c).length : Int) = 0)
def exitOkM (x : Exit) : Bool :=
  if x.kind = 0 ∨ x.kind = 4 then decide (x.page = 0) && !x.write && decide (x.n = 0) else if x.kind = 1 then inB x.page 0 3 && decide (x.n = 0) else if x.kind = 2 ∨ x.kind = 3 then inB x.n 0 99 && decide (x.page = 0) && !x.write else false
def guestOkM (g : MG) : Bool := progOkM g.prog && inB g.a 0 99 && inB g.pc 0 12 && tableOkM 4 8 g.written && tableOkM 4 8 g.live && ctlOkM g.ctl && pendB g.pending && exitOkM g.exit && decide ((g.seen.length : Int) ≤ 40)
set_option maxRecDepth 100000 in
set_option maxHeartbeats 2000000 in
theorem insOk_c (i : Ins) (w : World) : Calls Tryz.prog 222 #[i.val] w fun e w' => e = .returned (.bool (insOkM i)) ∧ Below w.heap.size w w' := by
  have H := Hp.start w
  go_enter Tryz.func222, Tryz.ntmps222
  go_wp2_with (first
    | (refine wpList_box_H rfl rfl H rfl (by constructor) ?_; clear H; intro b w H)
    | (refine wpList_alloc_H rfl rfl H ?_; clear H; intro b w H)
    | (refine wpList_load_H rfl rfl H rfl (by repeat constructor) ?_)
    | (refine wpList_loads_H rfl rfl H rfl (by repeat constructor) ?_)
    | (refine wpList_store_H rfl rfl H rfl rfl (by repeat constructor) ?_; clear H; intro w H)
    | (go_at_call 72; ((refine (within_any _ _ _ _).mono ?_)); rintro e w' ⟨rfl, rfl⟩))
  all_goals (go_ret; refine ⟨ret_bool ?_, H.below⟩; clear H; unfold insOkM; simp_all <;> (rw [Bool.eq_iff_iff]; simp))
set_option maxRecDepth 100000 in
set_option maxHeartbeats 2000000 in
theorem exitOk_c (x : Exit) (w : World) : Calls Tryz.prog 208 #[x.val] w fun e w' => e = .returned (.bool (exitOkM x)) ∧ Below w.heap.size w w' := by
  have H := Hp.start w
  go_enter Tryz.func208, Tryz.ntmps208
  go_wp2_with (first
    | (refine wpList_box_H rfl rfl H rfl (by constructor) ?_; clear H; intro b w H)
    | (refine wpList_alloc_H rfl rfl H ?_; clear H; intro b w H)
    | (refine wpList_load_H rfl rfl H rfl (by repeat constructor) ?_)
    | (refine wpList_loads_H rfl rfl H rfl (by repeat constructor) ?_)
    | (refine wpList_store_H rfl rfl H rfl rfl (by repeat constructor) ?_; clear H; intro w H)
    | (go_at_call 72; ((refine (within_any _ _ _ _).mono ?_)); rintro e w' ⟨rfl, rfl⟩))
  all_goals (go_ret; refine ⟨ret_bool ?_, H.below⟩; clear H; unfold exitOkM; simp_all <;> (rw [Bool.eq_iff_iff]; simp))
set_option maxRecDepth 100000 in
set_option maxHeartbeats 2000000 in
theorem specInsOk_c (i : Ins) (w : World) : Calls Tryz.prog 223 #[i.val] w fun e w' => e = .returned (.bool (insOkM i)) ∧ Below w.heap.size w w' := by
  have H := Hp.start w
  go_enter Tryz.func223, Tryz.ntmps223
  go_wp2_with (first
    | (refine wpList_box_H rfl rfl H rfl (by constructor) ?_; clear H; intro b w H)
    | (refine wpList_alloc_H rfl rfl H ?_; clear H; intro b w H)
    | (refine wpList_load_H rfl rfl H rfl (by repeat constructor) ?_)
    | (refine wpList_loads_H rfl rfl H rfl (by repeat constructor) ?_)
    | (refine wpList_store_H rfl rfl H rfl rfl (by repeat constructor) ?_; clear H; intro w H)
    | (go_at_call 78; ((refine (in_any _ _ _ _).mono ?_)); rintro e w' ⟨rfl, rfl⟩))
  all_goals (go_ret; refine ⟨ret_bool ?_, H.below⟩; clear H; unfold insOkM; simp_all <;> (rw [Bool.eq_iff_iff]; simp))
set_option maxRecDepth 100000 in
set_option maxHeartbeats 2000000 in
theorem specExitOk_c (x : Exit) (w : World) : Calls Tryz.prog 212 #[x.val] w fun e w' => e = .returned (.bool (exitOkM x)) ∧ Below w.heap.size w w' := by
  have H := Hp.start w
  go_enter Tryz.func212, Tryz.ntmps212
  go_wp2_with (first
    | (refine wpList_box_H rfl rfl H rfl (by constructor) ?_; clear H; intro b w H)
    | (refine wpList_alloc_H rfl rfl H ?_; clear H; intro b w H)
    | (refine wpList_load_H rfl rfl H rfl (by repeat constructor) ?_)
    | (refine wpList_loads_H rfl rfl H rfl (by repeat constructor) ?_)
    | (refine wpList_store_H rfl rfl H rfl rfl (by repeat constructor) ?_; clear H; intro w H)
    | (go_at_call 78; ((refine (in_any _ _ _ _).mono ?_)); rintro e w' ⟨rfl, rfl⟩))
  all_goals (go_ret; refine ⟨ret_bool ?_, H.below⟩; clear H; unfold exitOkM; simp_all <;> (rw [Bool.eq_iff_iff]; simp))
set_option maxRecDepth 100000 in
set_option maxHeartbeats 2000000 in
theorem noSlot_c (w : World) : Calls Tryz.prog 193 #[] w fun e w' => e = .returned (.agg #[.int .i64 (-1), .int .i64 0]) ∧ Below w.heap.size w w' := by
  have H := Hp.start w
  go_enter Tryz.func193, Tryz.ntmps193
  go_wp2_with (first
    | (refine wpList_box_H rfl rfl H rfl (by constructor) ?_; clear H; intro b w H)
    | (refine wpList_alloc_H rfl rfl H ?_; clear H; intro b w H)
    | (refine wpList_load_H rfl rfl H rfl (by repeat constructor) ?_)
    | (refine wpList_loads_H rfl rfl H rfl (by repeat constructor) ?_)
    | (refine wpList_store_H rfl rfl H rfl rfl (by repeat constructor) ?_; clear H; intro w H))
  exact bodyPost_ret (results_H rfl H rfl (by repeat constructor)) rfl ⟨rfl, H.below⟩
set_option maxRecDepth 100000 in
set_option maxHeartbeats 2000000 in
theorem specNoSlot_c (w : World) : Calls Tryz.prog 141 #[] w fun e w' => e = .returned (.agg #[.int .i64 (-1), .int .i64 0]) ∧ Below w.heap.size w w' := by
  have H := Hp.start w
  go_enter Tryz.func141, Tryz.ntmps141
  go_wp2_with (first
    | (refine wpList_box_H rfl rfl H rfl (by constructor) ?_; clear H; intro b w H)
    | (refine wpList_alloc_H rfl rfl H ?_; clear H; intro b w H)
    | (refine wpList_load_H rfl rfl H rfl (by repeat constructor) ?_)
    | (refine wpList_loads_H rfl rfl H rfl (by repeat constructor) ?_)
    | (refine wpList_store_H rfl rfl H rfl rfl (by repeat constructor) ?_; clear H; intro w H))
  exact bodyPost_ret (results_H rfl H rfl (by repeat constructor)) rfl ⟨rfl, H.below⟩
set_option maxRecDepth 100000 in
set_option maxHeartbeats 2000000 in
theorem progOk_c (s : Sl Ins) (w : World) (R : Rd Ins.cells 2 w s) (Z : s.xs.length ≤ 4194304) : Calls Tryz.prog 206 #[.slice s.A s.xs.length s.c] w fun e w' => e = .returned (.bool (progOkM s.xs)) ∧ Below w.heap.size w w' := by
  have H := Hp.start w
  go_enter Tryz.func206, Tryz.ntmps206
  go_wp2_with (first
    | (refine wpList_box_H rfl rfl H rfl (by constructor) ?_; clear H; intro b w H)
    | (refine wpList_alloc_H rfl rfl H ?_; clear H; intro b w H)
    | (refine wpList_load_H rfl rfl H rfl (by repeat constructor) ?_)
    | (refine wpList_loads_H rfl rfl H rfl (by repeat constructor) ?_)
    | (refine wpList_store_H rfl rfl H rfl rfl (by repeat constructor) ?_; clear H; intro w H))
  go_loopw [7] (fun i wr => ∃ k : Nat, k ≤ s.xs.length ∧ i = .int .i64 k ∧ ((s.xs.take k).all insOkM = true) ∧ Hp w wr []) (fun i _ => s.xs.length - (intOf i).toNat)
  case atStart => exact ⟨0, by omega, rfl, by simp, H⟩
  case round =>
    clear H
    obtain ⟨k, hk0, rfl, ha, H⟩ := hrel
    have HA := Lib.hid ha; clear ha
    by_cases hk : k < s.xs.length
    · obtain ⟨y, hy0⟩ : ∃ y, s.xs[k]? = some y := ⟨_, List.getElem?_eq_getElem hk⟩
      have HY := Lib.hid hy0; clear hy0
      cases hp : insOkM y
      · go_wp2_with (first
          | (refine wpList_box_H rfl rfl H rfl (by constructor) ?_; clear H; intro b w H) | (refine wpList_alloc_H rfl rfl H ?_; clear H; intro b w H) | (refine wpList_load_H rfl rfl H rfl (by repeat constructor) ?_) | (refine wpList_loads_H rfl rfl H rfl (by repeat constructor) ?_) | (refine wpList_store_H rfl rfl H rfl rfl (by repeat constructor) ?_; clear H; intro w H) | (refine wpList_index_nat rfl rfl s (R.at_ H) rfl rfl hk ?_) | (refine wpList_loads_rd rfl rfl s (R.at_ H) rfl y HY.out (by repeat constructor) ?_) | (go_at_call 222; ((with_reducible refine (insOk_c y _).mono ?_)); rintro e w ⟨rfl, hb⟩; replace H := H.still hb; clear hb))
        all_goals (go_ret; refine ⟨ret_bool ?_, H.below⟩; simp [progOkM, all_false_at HY.out hp])
      · go_wp2_with (first
          | (refine wpList_box_H rfl rfl H rfl (by constructor) ?_; clear H; intro b w H) | (refine wpList_alloc_H rfl rfl H ?_; clear H; intro b w H) | (refine wpList_load_H rfl rfl H rfl (by repeat constructor) ?_) | (refine wpList_loads_H rfl rfl H rfl (by repeat constructor) ?_) | (refine wpList_store_H rfl rfl H rfl rfl (by repeat constructor) ?_; clear H; intro w H) | (refine wpList_index_nat rfl rfl s (R.at_ H) rfl rfl hk ?_) | (refine wpList_loads_rd rfl rfl s (R.at_ H) rfl y HY.out (by repeat constructor) ?_) | (go_at_call 222; ((with_reducible refine (insOk_c y _).mono ?_)); rintro e w ⟨rfl, hb⟩; replace H := H.still hb; clear hb))
        all_goals
          go_roundw
          case rel => exact ⟨k + 1, by omega, by go_num, all_take_succ HA.out HY.out hp, by first | exact H | exact H.drop⟩
          case measure => simp [intOf]; omega
    · have hke : k = s.xs.length := by omega
      subst hke
      go_wp2_with (first
          | (refine wpList_box_H rfl rfl H rfl (by constructor) ?_; clear H; intro b w H) | (refine wpList_alloc_H rfl rfl H ?_; clear H; intro b w H) | (refine wpList_load_H rfl rfl H rfl (by repeat constructor) ?_) | (refine wpList_loads_H rfl rfl H rfl (by repeat constructor) ?_) | (refine wpList_store_H rfl rfl H rfl rfl (by repeat constructor) ?_; clear H; intro w H) | (go_at_call 72; ((refine (within_any _ _ _ _).mono ?_)); rintro e w' ⟨rfl, rfl⟩))
      all_goals (go_ret; refine ⟨ret_bool ?_, H.below⟩; have h := HA.out; rw [List.take_length] at h; simp [progOkM, h] <;> (rw [Bool.eq_iff_iff]; simp))
set_option maxRecDepth 100000 in
set_option maxHeartbeats 2000000 in
theorem specProgOk_c (s : Sl Ins) (w : World) (R : Rd Ins.cells 2 w s) (Z : s.xs.length ≤ 4194304) : Calls Tryz.prog 210 #[.slice s.A s.xs.length s.c] w fun e w' => e = .returned (.bool (progOkM s.xs)) ∧ Below w.heap.size w w' := by
  have H := Hp.start w
  go_enter Tryz.func210, Tryz.ntmps210
  go_wp2_with (first
    | (refine wpList_box_H rfl rfl H rfl (by constructor) ?_; clear H; intro b w H)
    | (refine wpList_alloc_H rfl rfl H ?_; clear H; intro b w H)
    | (refine wpList_load_H rfl rfl H rfl (by repeat constructor) ?_)
    | (refine wpList_loads_H rfl rfl H rfl (by repeat constructor) ?_)
    | (refine wpList_store_H rfl rfl H rfl rfl (by repeat constructor) ?_; clear H; intro w H))
  go_loopw [3] (fun i wr => ∃ k : Nat, k ≤ s.xs.length ∧ i = .int .i64 k ∧ ((s.xs.take k).all insOkM = true) ∧ Hp w wr []) (fun i _ => s.xs.length - (intOf i).toNat)
  case atStart => exact ⟨0, by omega, rfl, by simp, H⟩
  case round =>
    clear H
    obtain ⟨k, hk0, rfl, ha, H⟩ := hrel
    have HA := Lib.hid ha; clear ha
    by_cases hk : k < s.xs.length
    · obtain ⟨y, hy0⟩ : ∃ y, s.xs[k]? = some y := ⟨_, List.getElem?_eq_getElem hk⟩
      have HY := Lib.hid hy0; clear hy0
      cases hp : insOkM y
      · go_wp2_with (first
          | (refine wpList_box_H rfl rfl H rfl (by constructor) ?_; clear H; intro b w H) | (refine wpList_alloc_H rfl rfl H ?_; clear H; intro b w H) | (refine wpList_load_H rfl rfl H rfl (by repeat constructor) ?_) | (refine wpList_loads_H rfl rfl H rfl (by repeat constructor) ?_) | (refine wpList_store_H rfl rfl H rfl rfl (by repeat constructor) ?_; clear H; intro w H) | (refine wpList_index_nat rfl rfl s (R.at_ H) rfl rfl hk ?_) | (refine wpList_loads_rd rfl rfl s (R.at_ H) rfl y HY.out (by repeat constructor) ?_) | (go_at_call 223; ((with_reducible refine (specInsOk_c y _).mono ?_)); rintro e w ⟨rfl, hb⟩; replace H := H.still hb; clear hb))
        all_goals (go_ret; refine ⟨ret_bool ?_, H.below⟩; simp [progOkM, all_false_at HY.out hp])
      · go_wp2_with (first
          | (refine wpList_box_H rfl rfl H rfl (by constructor) ?_; clear H; intro b w H) | (refine wpList_alloc_H rfl rfl H ?_; clear H; intro b w H) | (refine wpList_load_H rfl rfl H rfl (by repeat constructor) ?_) | (refine wpList_loads_H rfl rfl H rfl (by repeat constructor) ?_) | (refine wpList_store_H rfl rfl H rfl rfl (by repeat constructor) ?_; clear H; intro w H) | (refine wpList_index_nat rfl rfl s (R.at_ H) rfl rfl hk ?_) | (refine wpList_loads_rd rfl rfl s (R.at_ H) rfl y HY.out (by repeat constructor) ?_) | (go_at_call 223; ((with_reducible refine (specInsOk_c y _).mono ?_)); rintro e w ⟨rfl, hb⟩; replace H := H.still hb; clear hb))
        all_goals
          go_roundw
          case rel => exact ⟨k + 1, by omega, by go_num, all_take_succ HA.out HY.out hp, by first | exact H | exact H.drop⟩
          case measure => simp [intOf]; omega
    · have hke : k = s.xs.length := by omega
      subst hke
      go_wp2_with (first
          | (refine wpList_box_H rfl rfl H rfl (by constructor) ?_; clear H; intro b w H) | (refine wpList_alloc_H rfl rfl H ?_; clear H; intro b w H) | (refine wpList_load_H rfl rfl H rfl (by repeat constructor) ?_) | (refine wpList_loads_H rfl rfl H rfl (by repeat constructor) ?_) | (refine wpList_store_H rfl rfl H rfl rfl (by repeat constructor) ?_; clear H; intro w H) | (go_at_call 78; ((refine (in_any _ _ _ _).mono ?_)); rintro e w' ⟨rfl, rfl⟩))
      all_goals (go_ret; refine ⟨ret_bool ?_, H.below⟩; have h := HA.out; rw [List.take_length] at h; simp [progOkM, h] <;> (rw [Bool.eq_iff_iff]; simp))
theorem put_some (l : List Value) (d : List Deferred) (k : Nat) (v : Value) : Act.put ⟨l.toArray, d⟩ (some k) v = ⟨(l.set k v).toArray, d⟩ := by simp [Act.put]
end Go.Proofs.YtaafnenmdombiaaGreat
