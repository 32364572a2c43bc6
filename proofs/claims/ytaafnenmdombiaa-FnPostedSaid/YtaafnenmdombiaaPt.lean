/- Walk of the law FnPosted. No condition but that the argument lies in memory. -/
import Derived.Test.YtaafnenmdombiaaPo
import Derived.Test.YtaafnenmdombiaaSb
import Derived.Test.YtaafnenmdombiaaBn
namespace Go.Proofs.Ytaafnenmdombiaa
open Go.RowKit
attribute [local go_sem ↓] Go.wp_at_zero Go.wp_at_succ
@[go_sem] theorem run_field_bare1 (v0 v1 v2 v3 : Value) (w : World) : (Instr.field 28 (.agg #[v0, v1, v2, v3]) 1).run Try.prog w = .ok v1 w := by kernel_rfl
theorem val_eqD {P : Program} {f : FuncId} {args : Array Value} {w0 w : World} {L : List En} {v v' : Value} (h : Calls P f args w (fun e w' => ∃ u, e = .returned u ∧ (u = v ∧ Hp w0 w' L))) (e : v = v') : Calls P f args w (fun e w' => ∃ u, e = .returned u ∧ (u = v' ∧ Hp w0 w' L)) := e ▸ h
theorem bbig_D {d : BV} {m : MB} (e : Hid (d.m = m)) (h : m.size ≤ 4194304) : BBig d := by have := e.out; unfold BBig; rw [this]; exact h
section
variable {P : Program} {ops : Array Oper} {S : World → Prop} {o : Oper} {a : Act} {α : Type} {enc : α → List Value} {sz : Nat}
end
def BitN (n : Int) (x : MG) : Prop := pendB x.pending = true ∧ bits .and .i64 (x.pending / 2 ^ n.toNat) 1 = 1
theorem post_all : (List.range 256).all (fun a => (List.range 8).all fun k => pendB (postM a k) && (bits .and .i64 (postM a k / 2 ^ k) 1 == 1)) = true := by decide +kernel
theorem post_bit {p n : Int} (hp : pendB p = true) (h0 : 0 ≤ n) (h1 : n ≤ 7) : pendB (postM p n) = true ∧ bits .and .i64 (postM p n / 2 ^ n.toNat) 1 = 1 := by
  have h := (pendB_iff p).1 hp
  obtain ⟨a, rfl⟩ := Int.eq_ofNat_of_zero_le h.1
  obtain ⟨k, rfl⟩ := Int.eq_ofNat_of_zero_le h0
  have hh := List.all_eq_true.1 (List.all_eq_true.1 post_all a (List.mem_range.2 (by omega))) k (List.mem_range.2 (by omega))
  simp only [Bool.and_eq_true, beq_iff_eq] at hh
  exact hh
theorem postAt_facts {n : Int} (h0 : 0 ≤ n) (h1 : n ≤ 7) (m : MB) (i : Int) (hp : ∀ x ∈ m.guests, pendB x.pending = true) :
    (∀ x ∈ (postAt n m i).guests, pendB x.pending = true) ∧ (∀ (j : Nat) (x : MG), m.guests[j]? = some x → BitN n x → ∃ x', (postAt n m i).guests[j]? = some x' ∧ BitN n x') ∧ (∀ j : Nat, i = (j : Int) → j < m.guests.length → ∃ x', (postAt n m i).guests[j]? = some x' ∧ BitN n x') := by
  by_cases hm : hasM m i = true
  · have hm2 := hm
    unfold hasM hasB at hm2
    simp only [Bool.and_eq_true, decide_eq_true_eq] at hm2
    obtain ⟨k, rfl⟩ := Int.eq_ofNat_of_zero_le hm2.1
    have hk : k < m.guests.length := by omega
    have e : (postAt n m (k : Int)).guests = m.guests.set k { m.guests[k] with pending := postM m.guests[k].pending n } := by
      unfold postAt withGuestM gAtM
      rw [if_pos hm, if_pos hm]
      simp [hk]
    have hb : BitN n { m.guests[k] with pending := postM m.guests[k].pending n } := post_bit (hp _ (List.getElem_mem hk)) h0 h1
    rw [e]
    refine ⟨?_, ?_, ?_⟩
    · intro x hx
      rcases List.mem_or_eq_of_mem_set hx with hx | hx
      · exact hp x hx
      · rw [hx]; exact hb.1
    · intro j x hx hbx
      by_cases hj : j = k
      · subst hj; exact ⟨_, List.getElem?_set_self hk, hb⟩
      · exact ⟨x, by rw [List.getElem?_set_ne (by omega)]; exact hx, hbx⟩
    · intro j hj hjl
      have hjk : j = k := by omega
      subst hjk; exact ⟨_, List.getElem?_set_self hk, hb⟩
  · have e : (postAt n m i) = m := by unfold postAt withGuestM; rw [if_neg hm]
    rw [e]
    refine ⟨hp, fun j x hx hb => ⟨x, hx, hb⟩, fun j hj hjl => ?_⟩
    exfalso; apply hm; subst hj; simp [hasM, hasB, hjl]
theorem postTo_facts {n : Int} (h0 : 0 ≤ n) (h1 : n ≤ 7) : ∀ (l : List Int) (m : MB), (∀ x ∈ m.guests, pendB x.pending = true) →
    (∀ (j : Nat) (x : MG), m.guests[j]? = some x → BitN n x → ∃ x', (postTo n m l).guests[j]? = some x' ∧ BitN n x') ∧ (∀ j : Nat, (j : Int) ∈ l → j < m.guests.length → ∃ x', (postTo n m l).guests[j]? = some x' ∧ BitN n x')
  | [], m, _ => ⟨fun j x hx hb => ⟨x, hx, hb⟩, fun j hj => by simp at hj⟩
  | i :: l, m, hp => by
    obtain ⟨f1, f2, f3⟩ := postAt_facts h0 h1 m i hp
    obtain ⟨g1, g2⟩ := postTo_facts h0 h1 l (postAt n m i) f1
    refine ⟨?_, ?_⟩
    · intro j x hx hb
      obtain ⟨x', a, b⟩ := f2 j x hx hb
      exact g1 j x' a b
    · intro j hj hjl
      rcases List.mem_cons.1 hj with hj | hj
      · obtain ⟨x', a, b⟩ := f3 j hj.symm hjl
        exact g1 j x' a b
      · exact g2 j hj (by rw [postAt_len]; exact hjl)
theorem postTo_pend (n : Int) : ∀ (l : List Int) (m : MB), (postTo n m l).pending = m.pending
  | [], _ => rfl
  | i :: l, m => (postTo_pend n l (postAt n m i)).trans (by unfold postAt withGuestM; split <;> rfl)
theorem bpost_facts {m : MB} {n : Int} (h : bpostOkM m n = true) : (∀ i ∈ postedM m n, ∃ (j : Nat) (y : MG), i = (j : Int) ∧ (bpostM m n).guests[j]? = some y ∧ bits .and .i64 (y.pending / 2 ^ n.toNat) 1 = 1) ∧ (0 < (postedM m n).length → (bpostM m n).pending = m.pending) ∧ 0 ≤ n ∧ n ≤ 7 := by
  have h2 := h
  unfold bpostOkM at h2
  simp only [Bool.and_eq_true] at h2
  have hn : 0 ≤ n ∧ n ≤ 7 := by simpa [inB] using h2.2
  have hg : ∀ x ∈ m.guests, pendB x.pending = true := by
    intro x hx
    have hb := h2.1
    unfold bareOkM at hb
    simp only [Bool.and_eq_true] at hb
    have hx2 := List.all_eq_true.1 hb.1 x hx
    unfold guestOkM at hx2
    simp only [Bool.and_eq_true] at hx2
    exact hx2.1.1.2
  refine ⟨?_, ?_, hn⟩
  · intro i hi
    obtain ⟨j, y, hj, hy, _⟩ := idx_mem hi
    have hij : i = (j : Int) := by rw [hj]; simp
    subst hij
    obtain ⟨x', a, b⟩ := (postTo_facts hn.1 hn.2 (postedM m n) m hg).2 j hi (List.getElem?_eq_some_iff.1 hy).1
    refine ⟨j, x', rfl, ?_, b.2⟩
    unfold bpostM
    rw [if_pos h, if_neg (by have := List.length_pos_of_mem hi; omega)]
    exact a
  · intro hl
    unfold bpostM
    rw [if_pos h, if_neg (by omega)]
    exact postTo_pend _ _ _
theorem gsP_at {B : BV} {k : Nat} {x : MG} (h : B.m.guests[k]? = some x) : ∃ y, B.gs.xs[k]? = some y ∧ y.m = x := by
  have h2 : (B.gs.xs.map GV.m)[k]? = some x := h
  rw [List.getElem?_map] at h2
  exact Option.map_eq_some_iff.1 h2
theorem gsP_set : ∀ (l : List MG) (k : Nat) (x y : MG), l[k]? = some y → x.size = y.size → ((l.set k x).map MG.size).sum = (l.map MG.size).sum
  | [], k, x, y, h, e => by simp at h
  | z :: l, 0, x, y, h, e => by simp at h; subst h; simp [e]
  | z :: l, k + 1, x, y, h, e => by have := gsP_set l k x y (by simpa using h) e; simp only [List.set_cons_succ, List.map_cons, List.sum_cons]; omega
theorem postAt_size (n : Int) (m : MB) (i : Int) : (postAt n m i).size = m.size := by
  unfold postAt withGuestM gAtM
  split
  · rename_i hm
    have hm2 := hm
    unfold hasM hasB at hm2
    simp only [Bool.and_eq_true, decide_eq_true_eq] at hm2
    have hk : i.toNat < m.guests.length := by omega
    unfold MB.size gsSize
    simp only [List.length_set]
    rw [gsP_set m.guests i.toNat _ m.guests[i.toNat] (List.getElem?_eq_getElem hk) (by simp [hk, MG.size])]
  · rfl
theorem postTo_size (n : Int) : ∀ (l : List Int) (m : MB), (postTo n m l).size = m.size
  | [], _ => rfl
  | i :: l, m => (postTo_size n l (postAt n m i)).trans (postAt_size n m i)
theorem bpost_size (m : MB) (n : Int) (h : m.size ≤ 1000) : (bpostM m n).size ≤ 4194304 := by
  unfold bpostM; split
  · split
    · unfold MB.size at *; simp only at *; omega
    · rw [postTo_size]; omega
  · omega
theorem ack_size (m : MB) (h : m.size ≤ 1000) : (ackM m).size ≤ 4194304 := by
  unfold ackM; split
  · unfold MB.size at *; simp only at *; omega
  · omega
def po0 : MB := bareNewM [[⟨7, 0⟩]]
theorem po_facts : po0.size ≤ 1000 ∧ (bpostM po0 5).size ≤ 1000 ∧ ackN (bpostM po0 5) = 5 ∧ ackOkM (bpostM po0 5) = true := by decide +kernel
set_option linter.unusedSimpArgs false in
set_option linter.unusedVariables false in
set_option maxRecDepth 100000 in
set_option maxHeartbeats 20000000 in
theorem walk_fnPosted (s : Sl Int) (W0 : World) (ra : Rd u8cell 1 W0 s ∧ s.xs.length ≤ maxLen) : Calls Try.prog 4 #[.slice s.A s.xs.length s.c] W0 fun e w' => e = .returned (.bool true) ∧ Below W0.heap.size W0 w' := by
  obtain ⟨R0, _⟩ := ra
  have R := R0
  have H := Hp.start W0
  by_cases hbig : 1048576 < s.xs.length
  · have hb : decide (1048576 < s.xs.length) = true := decide_eq_true hbig
    have HB := Lib.hid hb; clear hb
    go_enter Try.func4, Try.ntmps4
    go_wp2_with (first
      | go_skip
      | ((with_reducible refine at_box ?_); first | (refine wpList_box_H rfl rfl H rfl (by first | exact CellsOf.agg | exact CellsOf.int | exact CellsOf.bool | exact CellsOf.slice | exact CellsOf.string | exact CellsOf.pointer | exact CellsOf.func) ?_; clear H; intro bQ w H))
      | ((with_reducible refine at_alloc ?_); first | (refine wpList_alloc_H rfl rfl H ?_; clear H; intro b w H))
      | ((with_reducible refine at_load ?_); first | (refine wpList_load_H rfl rfl H rfl (by repeat (first | exact LoadAt.here rfl | apply LoadAt.there)) ?_) | (refine wpList_loads_H rfl rfl H rfl (by repeat (first | (apply LoadsAt.here; repeat (first | exact GetsAt.nil | apply GetsAt.here | apply GetsAt.there)) | apply LoadsAt.there)) ?_))
      | ((with_reducible refine at_store ?_); first | (refine wpList_store_H rfl rfl H rfl rfl (by repeat (first | (apply StoreAt.here; (first | exact CellsOf.agg | exact CellsOf.int | exact CellsOf.bool | exact CellsOf.slice | exact CellsOf.string | exact CellsOf.pointer | exact CellsOf.func); (repeat (first | exact SetsAt.nil | apply SetsAt.here | apply SetsAt.there)); exact rfl; exact rfl) | apply StoreAt.there)) ?_; clear H; intro w H)))
    go_at_call 5
    refine (big_c s _).mono ?_
    rintro e w ⟨he, K⟩
    rw [HB.out] at he
    subst he
    replace H := H.add_all K
    clear K
    go_wp2_with (first
      | go_skip
      | ((with_reducible refine at_box ?_); first | (refine wpList_box_H rfl rfl H rfl (by first | exact CellsOf.agg | exact CellsOf.int | exact CellsOf.bool | exact CellsOf.slice | exact CellsOf.string | exact CellsOf.pointer | exact CellsOf.func) ?_; clear H; intro bQ w H))
      | ((with_reducible refine at_alloc ?_); first | (refine wpList_alloc_H rfl rfl H ?_; clear H; intro b w H))
      | ((with_reducible refine at_load ?_); first | (refine wpList_load_H rfl rfl H rfl (by repeat (first | exact LoadAt.here rfl | apply LoadAt.there)) ?_) | (refine wpList_loads_H rfl rfl H rfl (by repeat (first | (apply LoadsAt.here; repeat (first | exact GetsAt.nil | apply GetsAt.here | apply GetsAt.there)) | apply LoadsAt.there)) ?_))
      | ((with_reducible refine at_store ?_); first | (refine wpList_store_H rfl rfl H rfl rfl (by repeat (first | (apply StoreAt.here; (first | exact CellsOf.agg | exact CellsOf.int | exact CellsOf.bool | exact CellsOf.slice | exact CellsOf.string | exact CellsOf.pointer | exact CellsOf.func); (repeat (first | exact SetsAt.nil | apply SetsAt.here | apply SetsAt.there)); exact rfl; exact rfl) | apply StoreAt.there)) ?_; clear H; intro w H)))
    go_ret
    exact ⟨rfl, H.below⟩
  have hb : decide (1048576 < s.xs.length) = false := decide_eq_false hbig
  have HB := Lib.hid hb; clear hb
  have Z : s.xs.length ≤ 1048576 := by omega
  clear hbig
  go_enter Try.func4, Try.ntmps4
  go_wp2_with (first
    | go_skip
    | ((with_reducible refine at_box ?_); first | (refine wpList_box_H rfl rfl H rfl (by first | exact CellsOf.agg | exact CellsOf.int | exact CellsOf.bool | exact CellsOf.slice | exact CellsOf.string | exact CellsOf.pointer | exact CellsOf.func) ?_; clear H; intro bQ w H))
    | ((with_reducible refine at_alloc ?_); first | (refine wpList_alloc_H rfl rfl H ?_; clear H; intro b w H))
    | ((with_reducible refine at_load ?_); first | (refine wpList_load_H rfl rfl H rfl (by repeat (first | exact LoadAt.here rfl | apply LoadAt.there)) ?_) | (refine wpList_loads_H rfl rfl H rfl (by repeat (first | (apply LoadsAt.here; repeat (first | exact GetsAt.nil | apply GetsAt.here | apply GetsAt.there)) | apply LoadsAt.there)) ?_))
    | ((with_reducible refine at_store ?_); first | (refine wpList_store_H rfl rfl H rfl rfl (by repeat (first | (apply StoreAt.here; (first | exact CellsOf.agg | exact CellsOf.int | exact CellsOf.bool | exact CellsOf.slice | exact CellsOf.string | exact CellsOf.pointer | exact CellsOf.func); (repeat (first | exact SetsAt.nil | apply SetsAt.here | apply SetsAt.there)); exact rfl; exact rfl) | apply StoreAt.there)) ?_; clear H; intro w H)))
  go_at_call 5
  refine (big_c s _).mono ?_
  rintro e w ⟨he, K⟩
  rw [HB.out] at he
  subst he
  replace H := H.add_all K
  clear K
  clear R
  have R : Rd u8cell 1 W0 s ∧ s.xs.length ≤ 1048576 := ⟨R0, Z⟩
  clear R0 Z
  go_wp2_with (first
    | go_skip
    | ((with_reducible refine at_box ?_); first | (refine wpList_box_H rfl rfl H rfl (by first | exact CellsOf.agg | exact CellsOf.int | exact CellsOf.bool | exact CellsOf.slice | exact CellsOf.string | exact CellsOf.pointer | exact CellsOf.func) ?_; clear H; intro bQ w H))
    | ((with_reducible refine at_alloc ?_); first | (refine wpList_alloc_H rfl rfl H ?_; clear H; intro b w H))
    | ((with_reducible refine at_load ?_); first | (refine wpList_load_H rfl rfl H rfl (by repeat (first | exact LoadAt.here rfl | apply LoadAt.there)) ?_) | (refine wpList_loads_H rfl rfl H rfl (by repeat (first | (apply LoadsAt.here; repeat (first | exact GetsAt.nil | apply GetsAt.here | apply GetsAt.there)) | apply LoadsAt.there)) ?_))
    | ((with_reducible refine at_store ?_); first | (refine wpList_store_H rfl rfl H rfl rfl (by repeat (first | (apply StoreAt.here; (first | exact CellsOf.agg | exact CellsOf.int | exact CellsOf.bool | exact CellsOf.slice | exact CellsOf.string | exact CellsOf.pointer | exact CellsOf.func); (repeat (first | exact SetsAt.nil | apply SetsAt.here | apply SetsAt.there)); exact rfl; exact rfl) | apply StoreAt.there)) ?_; clear H; intro w H)))
  go_at_call 14
  refine (drawBarePost_c s _ ⟨R.1.at_ H, R.2⟩).mono ?_
  rintro e w ⟨xb, Exb, n, rfl, hb, hs, K⟩
  replace H := H.add_all K
  clear K
  have HBxb : Hid (BDr Exb xb) := Lib.hid hb
  have Zxb : BBig xb := hb.2
  have HSxb := Lib.hid hs
  clear hb hs
  go_wp2_with (first
    | go_skip
    | ((with_reducible refine at_box ?_); first | (refine wpList_box_H rfl rfl H rfl (by first | exact CellsOf.agg | exact CellsOf.int | exact CellsOf.bool | exact CellsOf.slice | exact CellsOf.string | exact CellsOf.pointer | exact CellsOf.func) ?_; clear H; intro bQ w H))
    | ((with_reducible refine at_alloc ?_); first | ((with_reducible refine at_dst 3 ?_); refine wpList_alloc_H rfl rfl H ?_; clear H; intro b3 w H) | (refine wpList_alloc_H rfl rfl H ?_; clear H; intro bQ w H))
    | ((with_reducible refine at_load ?_); first | (refine wpList_load_H rfl rfl H rfl (by repeat (first | exact LoadAt.here rfl | apply LoadAt.there)) ?_) | (refine wpList_loads_H rfl rfl H rfl (by repeat (first | (apply LoadsAt.here; repeat (first | exact GetsAt.nil | apply GetsAt.here | apply GetsAt.there)) | apply LoadsAt.there)) ?_))
    | ((with_reducible refine at_store ?_); first | (refine wpList_store_H rfl rfl H rfl rfl (by repeat (first | (apply StoreAt.here; (first | exact CellsOf.agg | exact CellsOf.int | exact CellsOf.bool | exact CellsOf.slice | exact CellsOf.string | exact CellsOf.pointer | exact CellsOf.func); (repeat (first | exact SetsAt.nil | apply SetsAt.here | apply SetsAt.there)); exact rfl; exact rfl) | apply StoreAt.there)) ?_; clear H; intro w H)))
  go_at_call 15
  refine (barePost_c xb n _ (HBxb.out.1 _ (H.get (e := Exb) (by repeat (first | exact Take.head | apply Take.tail)))) Zxb).mono ?_
  rintro e w ⟨d1, rfl, hd1, K⟩
  have Hd1 := Lib.hid hd1; clear hd1
  replace H := H.add_all K
  clear K
  have Zd1 := bbig_D Hd1 (bpost_size _ _ HSxb.out)
  go_wp2_with (first
    | go_skip
    | ((with_reducible refine at_box ?_); first | (refine wpList_box_H rfl rfl H rfl (by first | exact CellsOf.agg | exact CellsOf.int | exact CellsOf.bool | exact CellsOf.slice | exact CellsOf.string | exact CellsOf.pointer | exact CellsOf.func) ?_; clear H; intro bQ w H))
    | ((with_reducible refine at_alloc ?_); first | ((with_reducible refine at_dst 5 ?_); refine wpList_alloc_H rfl rfl H ?_; clear H; intro b5 w H) | (refine wpList_alloc_H rfl rfl H ?_; clear H; intro bQ w H))
    | ((with_reducible refine at_load ?_); first | (refine wpList_load_H rfl rfl H rfl (by repeat (first | exact LoadAt.here rfl | apply LoadAt.there)) ?_) | (refine wpList_loads_H rfl rfl H rfl (by repeat (first | (apply LoadsAt.here; repeat (first | exact GetsAt.nil | apply GetsAt.here | apply GetsAt.there)) | apply LoadsAt.there)) ?_))
    | ((with_reducible refine at_store ?_); first | (refine wpList_store_H rfl rfl H rfl rfl (by repeat (first | (apply StoreAt.here; (first | exact CellsOf.agg | exact CellsOf.int | exact CellsOf.bool | exact CellsOf.slice | exact CellsOf.string | exact CellsOf.pointer | exact CellsOf.func); (repeat (first | exact SetsAt.nil | apply SetsAt.here | apply SetsAt.there)); exact rfl; exact rfl) | apply StoreAt.there)) ?_; clear H; intro w H)))
  go_at_call 16
  refine (specBarePost_c xb n _ (HBxb.out.1 _ (H.get (e := Exb) (by repeat (first | exact Take.head | apply Take.tail)))) Zxb).mono ?_
  rintro e w ⟨w1, rfl, hw1, K⟩
  have Hw1 := Lib.hid hw1; clear hw1
  replace H := H.add_all K
  clear K
  have EQd1 : Hid ((d1.m == w1.m) = true) := Lib.hid (by rw [Hd1.out, Hw1.out] <;> simp)
  go_wp2_with (first
    | go_skip
    | ((with_reducible refine at_box ?_); first | (refine wpList_box_H rfl rfl H rfl (by first | exact CellsOf.agg | exact CellsOf.int | exact CellsOf.bool | exact CellsOf.slice | exact CellsOf.string | exact CellsOf.pointer | exact CellsOf.func) ?_; clear H; intro bQ w H))
    | ((with_reducible refine at_alloc ?_); first | ((with_reducible refine at_dst 7 ?_); refine wpList_alloc_H rfl rfl H ?_; clear H; intro b7 w H) | (refine wpList_alloc_H rfl rfl H ?_; clear H; intro bQ w H))
    | ((with_reducible refine at_load ?_); first | (refine wpList_load_H rfl rfl H rfl (by repeat (first | exact LoadAt.here rfl | apply LoadAt.there)) ?_) | (refine wpList_loads_H rfl rfl H rfl (by repeat (first | (apply LoadsAt.here; repeat (first | exact GetsAt.nil | apply GetsAt.here | apply GetsAt.there)) | apply LoadsAt.there)) ?_))
    | ((with_reducible refine at_store ?_); first | (refine wpList_store_H rfl rfl H rfl rfl (by repeat (first | (apply StoreAt.here; (first | exact CellsOf.agg | exact CellsOf.int | exact CellsOf.bool | exact CellsOf.slice | exact CellsOf.string | exact CellsOf.pointer | exact CellsOf.func); (repeat (first | exact SetsAt.nil | apply SetsAt.here | apply SetsAt.there)); exact rfl; exact rfl) | apply StoreAt.there)) ?_; clear H; intro w H)))
  go_at_call 17
  refine (postedTo_c xb n _ (HBxb.out.1 _ (H.get (e := Exb) (by repeat (first | exact Take.head | apply Take.tail)))) Zxb.gs).mono ?_
  rintro e w ⟨c, rfl, hc, K⟩
  have HC := Lib.hid hc; clear hc
  replace H := H.add_all K
  clear K
  have Zc : c.xs.length ≤ 4194304 := by rw [HC.out]; exact Nat.le_trans (idx_len _ _ _) (by have := Zxb.gs; simpa [BV.m, gsOf] using this)
  go_wp2_with (first
    | go_skip
    | ((with_reducible refine at_box ?_); first | (refine wpList_box_H rfl rfl H rfl (by first | exact CellsOf.agg | exact CellsOf.int | exact CellsOf.bool | exact CellsOf.slice | exact CellsOf.string | exact CellsOf.pointer | exact CellsOf.func) ?_; clear H; intro bQ w H))
    | ((with_reducible refine at_alloc ?_); first | (refine wpList_alloc_H rfl rfl H ?_; clear H; intro bQ w H))
    | ((with_reducible refine at_load ?_); first | (refine wpList_load_H rfl rfl H rfl (by repeat (first | exact LoadAt.here rfl | apply LoadAt.there)) ?_) | (refine wpList_loads_H rfl rfl H rfl (by repeat (first | (apply LoadsAt.here; repeat (first | exact GetsAt.nil | apply GetsAt.here | apply GetsAt.there)) | apply LoadsAt.there)) ?_))
    | ((with_reducible refine at_store ?_); first | (refine wpList_store_H rfl rfl H rfl rfl (by repeat (first | (apply StoreAt.here; (first | exact CellsOf.agg | exact CellsOf.int | exact CellsOf.bool | exact CellsOf.slice | exact CellsOf.string | exact CellsOf.pointer | exact CellsOf.func); (repeat (first | exact SetsAt.nil | apply SetsAt.here | apply SetsAt.there)); exact rfl; exact rfl) | apply StoreAt.there)) ?_; clear H; intro w H)))
  go_at_call 18
  refine (drawBareAck_c s _ ⟨R.1.at_ H, R.2⟩).mono ?_
  rintro e w ⟨xc, Exc, rfl, hb, hs, K⟩
  replace H := H.add_all K
  clear K
  have HBxc : Hid (BDr Exc xc) := Lib.hid hb
  have Zxc : BBig xc := hb.2
  have HSxc := Lib.hid hs
  clear hb hs
  go_wp2_with (first
    | go_skip
    | ((with_reducible refine at_box ?_); first | (refine wpList_box_H rfl rfl H rfl (by first | exact CellsOf.agg | exact CellsOf.int | exact CellsOf.bool | exact CellsOf.slice | exact CellsOf.string | exact CellsOf.pointer | exact CellsOf.func) ?_; clear H; intro bQ w H))
    | ((with_reducible refine at_alloc ?_); first | ((with_reducible refine at_dst 10 ?_); refine wpList_alloc_H rfl rfl H ?_; clear H; intro b10 w H) | (refine wpList_alloc_H rfl rfl H ?_; clear H; intro bQ w H))
    | ((with_reducible refine at_load ?_); first | (refine wpList_load_H rfl rfl H rfl (by repeat (first | exact LoadAt.here rfl | apply LoadAt.there)) ?_) | (refine wpList_loads_H rfl rfl H rfl (by repeat (first | (apply LoadsAt.here; repeat (first | exact GetsAt.nil | apply GetsAt.here | apply GetsAt.there)) | apply LoadsAt.there)) ?_))
    | ((with_reducible refine at_store ?_); first | (refine wpList_store_H rfl rfl H rfl rfl (by repeat (first | (apply StoreAt.here; (first | exact CellsOf.agg | exact CellsOf.int | exact CellsOf.bool | exact CellsOf.slice | exact CellsOf.string | exact CellsOf.pointer | exact CellsOf.func); (repeat (first | exact SetsAt.nil | apply SetsAt.here | apply SetsAt.there)); exact rfl; exact rfl) | apply StoreAt.there)) ?_; clear H; intro w H)))
  go_at_call 19
  refine (bareAck_c xc _ (HBxc.out.1 _ (H.get (e := Exc) (by repeat (first | exact Take.head | apply Take.tail)))) Zxc).mono ?_
  rintro e w ⟨d2, rfl, hd2, K⟩
  have Hd2 := Lib.hid hd2; clear hd2
  replace H := H.add_all K
  clear K
  have Zd2 := bbig_D Hd2 (ack_size _ HSxc.out)
  go_wp2_with (first
    | go_skip
    | ((with_reducible refine at_box ?_); first | (refine wpList_box_H rfl rfl H rfl (by first | exact CellsOf.agg | exact CellsOf.int | exact CellsOf.bool | exact CellsOf.slice | exact CellsOf.string | exact CellsOf.pointer | exact CellsOf.func) ?_; clear H; intro bQ w H))
    | ((with_reducible refine at_alloc ?_); first | ((with_reducible refine at_dst 11 ?_); refine wpList_alloc_H rfl rfl H ?_; clear H; intro b11 w H) | (refine wpList_alloc_H rfl rfl H ?_; clear H; intro bQ w H))
    | ((with_reducible refine at_load ?_); first | (refine wpList_load_H rfl rfl H rfl (by repeat (first | exact LoadAt.here rfl | apply LoadAt.there)) ?_) | (refine wpList_loads_H rfl rfl H rfl (by repeat (first | (apply LoadsAt.here; repeat (first | exact GetsAt.nil | apply GetsAt.here | apply GetsAt.there)) | apply LoadsAt.there)) ?_))
    | ((with_reducible refine at_store ?_); first | (refine wpList_store_H rfl rfl H rfl rfl (by repeat (first | (apply StoreAt.here; (first | exact CellsOf.agg | exact CellsOf.int | exact CellsOf.bool | exact CellsOf.slice | exact CellsOf.string | exact CellsOf.pointer | exact CellsOf.func); (repeat (first | exact SetsAt.nil | apply SetsAt.here | apply SetsAt.there)); exact rfl; exact rfl) | apply StoreAt.there)) ?_; clear H; intro w H)))
  go_at_call 20
  refine (specBareAck_c xc _ (HBxc.out.1 _ (H.get (e := Exc) (by repeat (first | exact Take.head | apply Take.tail)))) Zxc).mono ?_
  rintro e w ⟨w2, rfl, hw2, K⟩
  have Hw2 := Lib.hid hw2; clear hw2
  replace H := H.add_all K
  clear K
  have EQd2 : Hid ((d2.m == w2.m) = true) := Lib.hid (by rw [Hd2.out, Hw2.out] <;> simp)
  go_wp2_with (first
    | go_skip
    | ((with_reducible refine at_box ?_); first | (refine wpList_box_H rfl rfl H rfl (by first | exact CellsOf.agg | exact CellsOf.int | exact CellsOf.bool | exact CellsOf.slice | exact CellsOf.string | exact CellsOf.pointer | exact CellsOf.func) ?_; clear H; intro bQ w H))
    | ((with_reducible refine at_alloc ?_); first | ((with_reducible refine at_dst 14 ?_); refine wpList_alloc_H rfl rfl H ?_; clear H; intro b14 w H) | ((with_reducible refine at_dst 17 ?_); refine wpList_alloc_H rfl rfl H ?_; clear H; intro b17 w H) | (refine wpList_alloc_H rfl rfl H ?_; clear H; intro bQ w H))
    | ((with_reducible refine at_load ?_); first | (refine wpList_load_H rfl rfl H rfl (by repeat (first | exact LoadAt.here rfl | apply LoadAt.there)) ?_) | (refine wpList_loads_H rfl rfl H rfl (by repeat (first | (apply LoadsAt.here; repeat (first | exact GetsAt.nil | apply GetsAt.here | apply GetsAt.there)) | apply LoadsAt.there)) ?_))
    | ((with_reducible refine at_store ?_); first | (refine wpList_store_H rfl rfl H rfl rfl (by repeat (first | (apply StoreAt.here; (first | exact CellsOf.agg | exact CellsOf.int | exact CellsOf.bool | exact CellsOf.slice | exact CellsOf.string | exact CellsOf.pointer | exact CellsOf.func); (repeat (first | exact SetsAt.nil | apply SetsAt.here | apply SetsAt.there)); exact rfl; exact rfl) | apply StoreAt.there)) ?_; clear H; intro w H))
    | ((with_reducible refine at_slice ?_); first | ((with_reducible refine at_dst 94 ?_); refine wpList_one_H rfl rfl H (⟨7, 0⟩ : Ins) rfl CellsOf.agg rfl (by decide) ?_; clear H; intro bi w H) | ((with_reducible refine at_dst 95 ?_); refine wpList_one_H rfl rfl H (⟨some ⟨bi, 0, none⟩, 1, [⟨7, 0⟩]⟩ : Sl Ins) rfl CellsOf.slice rfl (by decide) ?_; clear H; intro bo w H))
    | (go_at_call 11; ((with_reducible refine at_arg2 d1.val ?_); refine (lawBare_c d1 w1 _ (H.brd (b := d1) (by repeat (first | exact Take.head | apply Take.tail))) (H.brd (b := w1) (by repeat (first | exact Take.head | apply Take.tail))) Zd1).mono ?_; rintro e w ⟨he, K⟩; rw [EQd1.out] at he; subst he; replace H := H.add_all K; clear K))
    | (go_at_call 11; ((with_reducible refine at_arg2 d2.val ?_); refine (lawBare_c d2 w2 _ (H.brd (b := d2) (by repeat (first | exact Take.head | apply Take.tail))) (H.brd (b := w2) (by repeat (first | exact Take.head | apply Take.tail))) Zd2).mono ?_; rintro e w ⟨he, K⟩; rw [EQd2.out] at he; subst he; replace H := H.add_all K; clear K))
    | (go_at_call 22; refine (specPostedTo_c xb n _ (HBxb.out.1 _ (H.get (e := Exb) (by repeat (first | exact Take.head | apply Take.tail)))) Zxb.gs).mono ?_; rintro e w ⟨c2, rfl, hc, K⟩; have EQC : Hid ((c.xs == c2.xs) = true) := Lib.hid (by rw [HC.out, hc] <;> simp); clear hc; replace H := H.add_all K; clear K)
    | (go_at_call 21; refine (lawInts_c c c2 _ (H.rd (s := c) (by repeat (first | exact Take.head | apply Take.tail)) int_len) (H.rd (s := c2) (by repeat (first | exact Take.head | apply Take.tail)) int_len) Zc).mono ?_; rintro e w ⟨he, hb⟩; rw [EQC.out] at he; subst he; replace H := H.still hb; clear hb))
  obtain ⟨N0, hN0⟩ : ∃ m, m = po0 := ⟨_, rfl⟩
  have hpf := po_facts
  rw [← hN0] at hpf
  obtain ⟨N1, hN1⟩ : ∃ m, m = bpostM N0 5 := ⟨_, rfl⟩
  rw [← hN1] at hpf
  obtain ⟨z0, z1, q1, q2⟩ := hpf
  have S0 := Lib.hid hN0
  have S1 : Hid (bpostM N0 5 = N1) := Lib.hid hN1.symm
  have Q0 : Hid (N0.size ≤ 4194304) := Lib.hid (by omega)
  have Q1 : Hid (N1.size ≤ 4194304) := Lib.hid (by omega)
  have QN := Lib.hid q1
  have QK := Lib.hid q2
  clear hN0 hN1 z0 z1 q1 q2
  go_at_call 10
  refine (specBareNew_c (⟨some ⟨bo, 0, none⟩, 1, [(⟨some ⟨bi, 0, none⟩, 1, [⟨7, 0⟩]⟩ : Sl Ins)]⟩ : Sl (Sl Ins)) _ (H.rd (s := (⟨some ⟨bo, 0, none⟩, 1, [(⟨some ⟨bi, 0, none⟩, 1, [⟨7, 0⟩]⟩ : Sl Ins)]⟩ : Sl (Sl Ins))) (by repeat (first | exact Take.head | apply Take.tail)) h_len) (by intro x hx; rw [List.mem_singleton.1 hx]; exact H.rd (by repeat (first | exact Take.head | apply Take.tail)) ins_len) (by intro x hx; rw [List.mem_singleton.1 hx]; simp) (by simp) (by simp)).mono ?_
  rintro e w ⟨n0, rfl, hn, K⟩
  have Hn0 : Hid (n0.m = N0) := Lib.hid (by rw [hn, S0.out]; rfl)
  clear hn
  replace H := H.add_all K
  clear K
  have Zn0 := bbig_D Hn0 Q0.out
  go_wp2_with (first
    | go_skip
    | ((with_reducible refine at_box ?_); first | (refine wpList_box_H rfl rfl H rfl (by first | exact CellsOf.agg | exact CellsOf.int | exact CellsOf.bool | exact CellsOf.slice | exact CellsOf.string | exact CellsOf.pointer | exact CellsOf.func) ?_; clear H; intro bQ w H))
    | ((with_reducible refine at_alloc ?_); first | ((with_reducible refine at_dst 17 ?_); refine wpList_alloc_H rfl rfl H ?_; clear H; intro b17 w H) | (refine wpList_alloc_H rfl rfl H ?_; clear H; intro bQ w H))
    | ((with_reducible refine at_load ?_); first | (refine wpList_load_H rfl rfl H rfl (by repeat (first | exact LoadAt.here rfl | apply LoadAt.there)) ?_) | (refine wpList_loads_H rfl rfl H rfl (by repeat (first | (apply LoadsAt.here; repeat (first | exact GetsAt.nil | apply GetsAt.here | apply GetsAt.there)) | apply LoadsAt.there)) ?_))
    | ((with_reducible refine at_store ?_); first | (refine wpList_store_H rfl rfl H rfl rfl (by repeat (first | (apply StoreAt.here; (first | exact CellsOf.agg | exact CellsOf.int | exact CellsOf.bool | exact CellsOf.slice | exact CellsOf.string | exact CellsOf.pointer | exact CellsOf.func); (repeat (first | exact SetsAt.nil | apply SetsAt.here | apply SetsAt.there)); exact rfl; exact rfl) | apply StoreAt.there)) ?_; clear H; intro w H)))
  go_at_call 15
  refine (barePost_c n0 5 _ (H.brd (b := n0) (by repeat (first | exact Take.head | apply Take.tail))) Zn0).mono ?_
  rintro e w ⟨t1, he, hy, K⟩
  have Ht1 : Hid (t1.m = N1) := Lib.hid (by rw [hy, Hn0.out]; exact S1.out)
  clear hy
  generalize bpostOkM n0.m 5 = f19 at he
  subst he
  replace H := H.add_all K
  clear K
  have Zt1 := bbig_D Ht1 Q1.out
  go_wp2_with (first
    | go_skip
    | ((with_reducible refine at_box ?_); first | (refine wpList_box_H rfl rfl H rfl (by first | exact CellsOf.agg | exact CellsOf.int | exact CellsOf.bool | exact CellsOf.slice | exact CellsOf.string | exact CellsOf.pointer | exact CellsOf.func) ?_; clear H; intro bQ w H))
    | ((with_reducible refine at_alloc ?_); first | ((with_reducible refine at_dst 18 ?_); refine wpList_alloc_H rfl rfl H ?_; clear H; intro b18 w H) | (refine wpList_alloc_H rfl rfl H ?_; clear H; intro bQ w H))
    | ((with_reducible refine at_load ?_); first | (refine wpList_load_H rfl rfl H rfl (by repeat (first | exact LoadAt.here rfl | apply LoadAt.there)) ?_) | (refine wpList_loads_H rfl rfl H rfl (by repeat (first | (apply LoadsAt.here; repeat (first | exact GetsAt.nil | apply GetsAt.here | apply GetsAt.there)) | apply LoadsAt.there)) ?_))
    | ((with_reducible refine at_store ?_); first | (refine wpList_store_H rfl rfl H rfl rfl (by repeat (first | (apply StoreAt.here; (first | exact CellsOf.agg | exact CellsOf.int | exact CellsOf.bool | exact CellsOf.slice | exact CellsOf.string | exact CellsOf.pointer | exact CellsOf.func); (repeat (first | exact SetsAt.nil | apply SetsAt.here | apply SetsAt.there)); exact rfl; exact rfl) | apply StoreAt.there)) ?_; clear H; intro w H)))
  go_at_call 19
  refine (bareAck_c t1 _ (H.brd (b := t1) (by repeat (first | exact Take.head | apply Take.tail))) Zt1).mono ?_
  rintro e w ⟨t2, he, hy, K⟩
  clear hy
  rw [Ht1.out, QN.out, QK.out] at he
  subst he
  replace H := H.add_all K
  clear K
  obtain ⟨ok, hok⟩ : ∃ ok, bpostOkM xb.m n = ok := ⟨_, rfl⟩
  rw [hok]
  cases ok
  · have EX : Hid ((d1.m == xb.m) = true) := Lib.hid (by rw [Hd1.out]; unfold bpostM; rw [hok]; simp)
    clear hok
    go_wp2_with (first
      | go_skip
      | ((with_reducible refine at_box ?_); first | (refine wpList_box_H rfl rfl H rfl (by first | exact CellsOf.agg | exact CellsOf.int | exact CellsOf.bool | exact CellsOf.slice | exact CellsOf.string | exact CellsOf.pointer | exact CellsOf.func) ?_; clear H; intro bQ w H))
      | ((with_reducible refine at_alloc ?_); first | ((with_reducible refine at_dst 20 ?_); refine wpList_alloc_H rfl rfl H ?_; clear H; intro b20 w H) | (refine wpList_alloc_H rfl rfl H ?_; clear H; intro bQ w H))
      | ((with_reducible refine at_load ?_); first | (refine wpList_load_H rfl rfl H rfl (by repeat (first | exact LoadAt.here rfl | apply LoadAt.there)) ?_) | (refine wpList_loads_H rfl rfl H rfl (by repeat (first | (apply LoadsAt.here; repeat (first | exact GetsAt.nil | apply GetsAt.here | apply GetsAt.there)) | apply LoadsAt.there)) ?_))
      | ((with_reducible refine at_store ?_); first | (refine wpList_store_H rfl rfl H rfl rfl (by repeat (first | (apply StoreAt.here; (first | exact CellsOf.agg | exact CellsOf.int | exact CellsOf.bool | exact CellsOf.slice | exact CellsOf.string | exact CellsOf.pointer | exact CellsOf.func); (repeat (first | exact SetsAt.nil | apply SetsAt.here | apply SetsAt.there)); exact rfl; exact rfl) | apply StoreAt.there)) ?_; clear H; intro w H))
      | (go_at_call 11; ((with_reducible refine at_arg2 d1.val ?_); refine (lawBare_c d1 xb _ (H.brd (b := d1) (by repeat (first | exact Take.head | apply Take.tail))) (HBxb.out.1 _ (H.get (e := Exb) (by repeat (first | exact Take.head | apply Take.tail)))) Zd1).mono ?_; rintro e w ⟨he, K⟩; rw [EX.out] at he; subst he; replace H := H.add_all K; clear K)))
    go_ret
    exact ⟨rfl, H.below⟩
  · obtain ⟨hbit, hpe, hn0, hn7⟩ := bpost_facts hok
    rw [← Hd1.out, ← HC.out] at hbit
    rw [← Hd1.out, ← HC.out] at hpe
    have HBIT := Lib.hid hbit
    have HPE := Lib.hid hpe
    clear hbit hpe hok
    have HU : Hid (IntKind.u64.wrap n = n) := Lib.hid (by simp only [IntKind.wrap, IntKind.bits, IntKind.signed]; simp; omega)
    have HM : Hid (min n.toNat 64 = n.toNat) := Lib.hid (by omega)
    go_wp2_with (first
      | go_skip
      | ((with_reducible refine at_box ?_); first | (refine wpList_box_H rfl rfl H rfl (by first | exact CellsOf.agg | exact CellsOf.int | exact CellsOf.bool | exact CellsOf.slice | exact CellsOf.string | exact CellsOf.pointer | exact CellsOf.func) ?_; clear H; intro bQ w H))
      | ((with_reducible refine at_alloc ?_); first | ((with_reducible refine at_dst 20 ?_); refine wpList_alloc_H rfl rfl H ?_; clear H; intro b20 w H) | (refine wpList_alloc_H rfl rfl H ?_; clear H; intro bQ w H))
      | ((with_reducible refine at_load ?_); first | (refine wpList_load_H rfl rfl H rfl (by repeat (first | exact LoadAt.here rfl | apply LoadAt.there)) ?_) | (refine wpList_loads_H rfl rfl H rfl (by repeat (first | (apply LoadsAt.here; repeat (first | exact GetsAt.nil | apply GetsAt.here | apply GetsAt.there)) | apply LoadsAt.there)) ?_))
      | ((with_reducible refine at_store ?_); first | (refine wpList_store_H rfl rfl H rfl rfl (by repeat (first | (apply StoreAt.here; (first | exact CellsOf.agg | exact CellsOf.int | exact CellsOf.bool | exact CellsOf.slice | exact CellsOf.string | exact CellsOf.pointer | exact CellsOf.func); (repeat (first | exact SetsAt.nil | apply SetsAt.here | apply SetsAt.there)); exact rfl; exact rfl) | apply StoreAt.there)) ?_; clear H; intro w H)))
    go_loopw [23] (fun iv wr => ∃ i : Nat, i ≤ c.xs.length ∧ iv = .int .i64 i ∧ Hp W0 wr [.bare d1, Exb, .int c, .box b3 28 (barr xb).toList, .box b5 28 (barr d1).toList]) (fun iv _ => c.xs.length - (intOf iv).toNat)
    case atStart => exact ⟨0, by omega, rfl, H.pick (.cons (by repeat (first | exact Take.head | apply Take.tail)) (.cons (by repeat (first | exact Take.head | apply Take.tail)) (.cons (by repeat (first | exact Take.head | apply Take.tail)) (.cons (by repeat (first | exact Take.head | apply Take.tail)) (.cons (by repeat (first | exact Take.head | apply Take.tail)) .nil)))))⟩
    case round =>
      clear H
      obtain ⟨i, hi0, rfl, H⟩ := hrel
      by_cases hi : i < c.xs.length
      · obtain ⟨v, hv⟩ : ∃ v, c.xs[i]? = some v := ⟨_, List.getElem?_eq_getElem hi⟩
        obtain ⟨j, ym, rfl, hj, hb⟩ := HBIT.out v (List.mem_of_getElem? hv)
        obtain ⟨y, hy, hym⟩ := gsP_at hj
        have hjl := (List.getElem?_eq_some_iff.1 hy).1
        have HV := Lib.hid hv
        have HY := Lib.hid hy
        have HB1 : Hid (bits .and .i64 (y.pending / 2 ^ n.toNat) 1 = 1) := Lib.hid (by have e : y.pending = ym.pending := congrArg MG.pending hym; rw [e]; exact hb)
        clear hv hj hb hy hym
        go_wp2_with (first
          | go_skip
          | ((with_reducible refine at_box ?_); first | (refine wpList_box_H rfl rfl H rfl (by first | exact CellsOf.agg | exact CellsOf.int | exact CellsOf.bool | exact CellsOf.slice | exact CellsOf.string | exact CellsOf.pointer | exact CellsOf.func) ?_; clear H; intro bQ w H))
          | ((with_reducible refine at_alloc ?_); first | (refine wpList_alloc_H rfl rfl H ?_; clear H; intro bQ w H))
          | ((with_reducible refine at_load ?_); first | (refine wpList_load_H rfl rfl H rfl (by repeat (first | exact LoadAt.here rfl | apply LoadAt.there)) ?_) | (refine wpList_loads_H rfl rfl H rfl (by repeat (first | (apply LoadsAt.here; repeat (first | exact GetsAt.nil | apply GetsAt.here | apply GetsAt.there)) | apply LoadsAt.there)) ?_))
          | ((with_reducible refine at_store ?_); first | (refine wpList_store_H rfl rfl H rfl rfl (by repeat (first | (apply StoreAt.here; (first | exact CellsOf.agg | exact CellsOf.int | exact CellsOf.bool | exact CellsOf.slice | exact CellsOf.string | exact CellsOf.pointer | exact CellsOf.func); (repeat (first | exact SetsAt.nil | apply SetsAt.here | apply SetsAt.there)); exact rfl; exact rfl) | apply StoreAt.there)) ?_; clear H; intro w H)))
        refine wp_cut (fun u a' w' => ∃ (_ : Unit), Hid True ∧ Hp W0 w' [.bare d1, Exb, .int c, .box b3 28 (barr xb).toList, .box b5 28 (barr d1).toList] ∧ a' = puts u [(126, (.pointer (some ⟨b5, 1, none⟩))), (127, (.slice d1.gs.A d1.gs.xs.length d1.gs.c)), (128, (.slice c.A c.xs.length c.c)), (129, (.int .i64 (i : Int))), (130, (.pointer (some ⟨ablk c.A, aoff c.A + i * 1, none⟩))), (131, (.int .i64 (j : Int))), (132, (.pointer (some ⟨ablk d1.gs.A, aoff d1.gs.A + j * 15, none⟩))), (133, (.pointer (some ⟨ablk d1.gs.A, aoff d1.gs.A + j * 15 + 8, none⟩))), (134, (.int .i64 y.pending)), (135, (.int .i64 n)), (136, (.int .u64 n)), (137, (.int .i64 (y.pending / 2 ^ n.toNat))), (138, (.int .i64 1)), (139, (.bool false))]) ?_ ?_
        · refine wp_region_held (S := (fun w' => Rw w' b5 28 (barr d1) ∧ ((Rd GV.cells 15 w' d1.gs ∧ Rd icell 1 w' c)))) (by kernel_rfl) ?_
          replace H := H.drew
          refine takeH (i := 0) rfl .here (by kernel_rfl) (by kernel_rfl) (by kernel_rfl) (fun _ _ _ h => absurd h.1 (by simp)) (yields_val (v := (.pointer (some ⟨b5, 1, none⟩))) rfl (fun _ => by go_simp)) ⟨H.rw_ (by repeat (first | exact Take.head | apply Take.tail)), (H.brd (b := d1) (by repeat (first | exact Take.head | apply Take.tail))).gs, H.rd (s := c) (by repeat (first | exact Take.head | apply Take.tail)) int_len⟩ ?_
          (try simp only [Act.put, List.setIfInBounds_toArray, List.set_cons_succ, List.set_cons_zero])
          refine takeH (i := 1) rfl (.there .here) (by kernel_rfl) (by kernel_rfl) (by kernel_rfl) (fun _ _ _ h => absurd h.1 (by simp)) (yields_load1_R rfl rfl rfl (fun _ hS => hS.1) rfl) ⟨H.rw_ (by repeat (first | exact Take.head | apply Take.tail)), (H.brd (b := d1) (by repeat (first | exact Take.head | apply Take.tail))).gs, H.rd (s := c) (by repeat (first | exact Take.head | apply Take.tail)) int_len⟩ ?_
          (try simp only [Act.put, List.setIfInBounds_toArray, List.set_cons_succ, List.set_cons_zero])
          refine takeH (i := 2) rfl (.there (.there .here)) (by kernel_rfl) (by kernel_rfl) (by kernel_rfl) (fun _ _ _ h => absurd h.1 (by simp)) (yields_val (v := (.slice c.A c.xs.length c.c)) rfl (fun _ => by go_simp)) ⟨H.rw_ (by repeat (first | exact Take.head | apply Take.tail)), (H.brd (b := d1) (by repeat (first | exact Take.head | apply Take.tail))).gs, H.rd (s := c) (by repeat (first | exact Take.head | apply Take.tail)) int_len⟩ ?_
          (try simp only [Act.put, List.setIfInBounds_toArray, List.set_cons_succ, List.set_cons_zero])
          refine takeH (i := 3) rfl (.there (.there (.there .here))) (by kernel_rfl) (by kernel_rfl) (by kernel_rfl) (fun _ _ _ h => absurd h.1 (by simp)) (yields_val (v := (.int .i64 (i : Int))) rfl (fun _ => by go_simp)) ⟨H.rw_ (by repeat (first | exact Take.head | apply Take.tail)), (H.brd (b := d1) (by repeat (first | exact Take.head | apply Take.tail))).gs, H.rd (s := c) (by repeat (first | exact Take.head | apply Take.tail)) int_len⟩ ?_
          (try simp only [Act.put, List.setIfInBounds_toArray, List.set_cons_succ, List.set_cons_zero])
          refine takeH (i := 4) rfl (.there (.there (.there (.there .here)))) (by kernel_rfl) (by kernel_rfl) (by kernel_rfl) (fun _ _ _ h => absurd h.1 (by simp)) (yields_index_n rfl rfl (k := i) c (fun _ hS => hS.2.2) rfl rfl rfl hi) ⟨H.rw_ (by repeat (first | exact Take.head | apply Take.tail)), (H.brd (b := d1) (by repeat (first | exact Take.head | apply Take.tail))).gs, H.rd (s := c) (by repeat (first | exact Take.head | apply Take.tail)) int_len⟩ ?_
          (try simp only [Act.put, List.setIfInBounds_toArray, List.set_cons_succ, List.set_cons_zero])
          refine takeH (i := 5) rfl (.there (.there (.there (.there (.there .here))))) (by kernel_rfl) (by kernel_rfl) (by kernel_rfl) (fun _ _ _ h => absurd h.1 (by simp)) (yields_load_rd rfl rfl c (fun _ hS => hS.2.2) rfl (j : Int) HV.out (by first | exact rfl | exact (Nat.add_zero _).symm) rfl) ⟨H.rw_ (by repeat (first | exact Take.head | apply Take.tail)), (H.brd (b := d1) (by repeat (first | exact Take.head | apply Take.tail))).gs, H.rd (s := c) (by repeat (first | exact Take.head | apply Take.tail)) int_len⟩ ?_
          (try simp only [Act.put, List.setIfInBounds_toArray, List.set_cons_succ, List.set_cons_zero])
          refine takeH (i := 6) rfl (.there (.there (.there (.there (.there (.there .here)))))) (by kernel_rfl) (by kernel_rfl) (by kernel_rfl) (fun _ _ _ h => absurd h.1 (by simp)) (yields_index_n rfl rfl (k := j) d1.gs (fun _ hS => hS.2.1) rfl rfl rfl hjl) ⟨H.rw_ (by repeat (first | exact Take.head | apply Take.tail)), (H.brd (b := d1) (by repeat (first | exact Take.head | apply Take.tail))).gs, H.rd (s := c) (by repeat (first | exact Take.head | apply Take.tail)) int_len⟩ ?_
          (try simp only [Act.put, List.setIfInBounds_toArray, List.set_cons_succ, List.set_cons_zero])
          refine takeH (i := 7) rfl (.there (.there (.there (.there (.there (.there (.there .here))))))) (by kernel_rfl) (by kernel_rfl) (by kernel_rfl) (fun _ _ _ h => absurd h.1 (by simp)) (yields_val (v := (.pointer (some ⟨ablk d1.gs.A, aoff d1.gs.A + j * 15 + 8, none⟩))) rfl (fun _ => by go_simp)) ⟨H.rw_ (by repeat (first | exact Take.head | apply Take.tail)), (H.brd (b := d1) (by repeat (first | exact Take.head | apply Take.tail))).gs, H.rd (s := c) (by repeat (first | exact Take.head | apply Take.tail)) int_len⟩ ?_
          (try simp only [Act.put, List.setIfInBounds_toArray, List.set_cons_succ, List.set_cons_zero])
          refine takeH (i := 8) rfl (.there (.there (.there (.there (.there (.there (.there (.there .here)))))))) (by kernel_rfl) (by kernel_rfl) (by kernel_rfl) (fun _ _ _ h => absurd h.1 (by simp)) (yields_load_rd rfl rfl d1.gs (fun _ hS => hS.2.1) rfl y HY.out (by first | exact rfl | exact (Nat.add_zero _).symm) rfl) ⟨H.rw_ (by repeat (first | exact Take.head | apply Take.tail)), (H.brd (b := d1) (by repeat (first | exact Take.head | apply Take.tail))).gs, H.rd (s := c) (by repeat (first | exact Take.head | apply Take.tail)) int_len⟩ ?_
          (try simp only [Act.put, List.setIfInBounds_toArray, List.set_cons_succ, List.set_cons_zero])
          refine takeH (i := 9) rfl (.there (.there (.there (.there (.there (.there (.there (.there (.there .here))))))))) (by kernel_rfl) (by kernel_rfl) (by kernel_rfl) (fun _ _ _ h => absurd h.1 (by simp)) (yields_val (v := (.int .i64 n)) rfl (fun _ => by go_simp)) ⟨H.rw_ (by repeat (first | exact Take.head | apply Take.tail)), (H.brd (b := d1) (by repeat (first | exact Take.head | apply Take.tail))).gs, H.rd (s := c) (by repeat (first | exact Take.head | apply Take.tail)) int_len⟩ ?_
          (try simp only [Act.put, List.setIfInBounds_toArray, List.set_cons_succ, List.set_cons_zero])
          refine takeH (i := 10) rfl (.there (.there (.there (.there (.there (.there (.there (.there (.there (.there .here)))))))))) (by kernel_rfl) (by kernel_rfl) (by kernel_rfl) (fun _ _ _ h => absurd h.1 (by simp)) (yields_val (v := (.int .u64 n)) rfl (fun _ => by (first | (go_simp; done) | (go_simp; rw [HU.out]) | (rw [← HU.out]; go_simp; done) | (go_simp; omega) | (go_simp; simpa using HU.out)))) ⟨H.rw_ (by repeat (first | exact Take.head | apply Take.tail)), (H.brd (b := d1) (by repeat (first | exact Take.head | apply Take.tail))).gs, H.rd (s := c) (by repeat (first | exact Take.head | apply Take.tail)) int_len⟩ ?_
          (try simp only [Act.put, List.setIfInBounds_toArray, List.set_cons_succ, List.set_cons_zero])
          refine takeH (i := 11) rfl (.there (.there (.there (.there (.there (.there (.there (.there (.there (.there (.there .here))))))))))) (by kernel_rfl) (by kernel_rfl) (by kernel_rfl) (fun _ _ _ h => absurd h.1 (by simp)) (yields_val (v := (.int .i64 (y.pending / 2 ^ n.toNat))) rfl (fun _ => by (first | (go_simp; done) | (go_simp; rw [HM.out]) | (rw [← HM.out]; go_simp; done) | (go_simp; omega) | (go_simp; simpa using HM.out)))) ⟨H.rw_ (by repeat (first | exact Take.head | apply Take.tail)), (H.brd (b := d1) (by repeat (first | exact Take.head | apply Take.tail))).gs, H.rd (s := c) (by repeat (first | exact Take.head | apply Take.tail)) int_len⟩ ?_
          (try simp only [Act.put, List.setIfInBounds_toArray, List.set_cons_succ, List.set_cons_zero])
          refine takeH (i := 12) rfl (.there (.there (.there (.there (.there (.there (.there (.there (.there (.there (.there (.there .here)))))))))))) (by kernel_rfl) (by kernel_rfl) (by kernel_rfl) (fun _ _ _ h => absurd h.1 (by simp)) (yields_val (v := (.int .i64 1)) rfl (fun _ => by (first | (go_simp; done) | (go_simp; rw [HB1.out]) | (rw [← HB1.out]; go_simp; done) | (go_simp; omega) | (go_simp; simpa using HB1.out)))) ⟨H.rw_ (by repeat (first | exact Take.head | apply Take.tail)), (H.brd (b := d1) (by repeat (first | exact Take.head | apply Take.tail))).gs, H.rd (s := c) (by repeat (first | exact Take.head | apply Take.tail)) int_len⟩ ?_
          (try simp only [Act.put, List.setIfInBounds_toArray, List.set_cons_succ, List.set_cons_zero])
          refine takeH (i := 13) rfl (.there (.there (.there (.there (.there (.there (.there (.there (.there (.there (.there (.there (.there .here))))))))))))) (by kernel_rfl) (by kernel_rfl) (by kernel_rfl) (fun _ _ _ h => absurd h.1 (by simp)) (yields_val (v := (.bool false)) rfl (fun _ => by go_simp)) ⟨H.rw_ (by repeat (first | exact Take.head | apply Take.tail)), (H.brd (b := d1) (by repeat (first | exact Take.head | apply Take.tail))).gs, H.rd (s := c) (by repeat (first | exact Take.head | apply Take.tail)) int_len⟩ ?_
          (try simp only [Act.put, List.setIfInBounds_toArray, List.set_cons_succ, List.set_cons_zero])
          refine wpAnyH_done (by kernel_rfl) ?_ _
          exact ⟨rfl, (), Lib.hid trivial, H.pick (.cons (by repeat (first | exact Take.head | apply Take.tail)) (.cons (by repeat (first | exact Take.head | apply Take.tail)) (.cons (by repeat (first | exact Take.head | apply Take.tail)) (.cons (by repeat (first | exact Take.head | apply Take.tail)) (.cons (by repeat (first | exact Take.head | apply Take.tail)) .nil))))), by first | (simp only [puts_cons, puts_nil, Act.put, List.setIfInBounds_toArray, List.set_cons_succ, List.set_cons_zero]; done) | (simp only [puts_cons, puts_nil, Act.put, List.setIfInBounds_toArray, List.set_cons_succ, List.set_cons_zero]; rfl)⟩
        clear H
        rintro u w ⟨_, _, H, rfl⟩
        simp only [puts_cons, puts_nil, Act.put, List.setIfInBounds_toArray, List.set_cons_succ, List.set_cons_zero]
        go_wp2_with (first
          | go_skip
          | ((with_reducible refine at_box ?_); first | (refine wpList_box_H rfl rfl H rfl (by first | exact CellsOf.agg | exact CellsOf.int | exact CellsOf.bool | exact CellsOf.slice | exact CellsOf.string | exact CellsOf.pointer | exact CellsOf.func) ?_; clear H; intro bQ w H))
          | ((with_reducible refine at_alloc ?_); first | (refine wpList_alloc_H rfl rfl H ?_; clear H; intro bQ w H))
          | ((with_reducible refine at_load ?_); first | (refine wpList_load_H rfl rfl H rfl (by repeat (first | exact LoadAt.here rfl | apply LoadAt.there)) ?_) | (refine wpList_loads_H rfl rfl H rfl (by repeat (first | (apply LoadsAt.here; repeat (first | exact GetsAt.nil | apply GetsAt.here | apply GetsAt.there)) | apply LoadsAt.there)) ?_))
          | ((with_reducible refine at_store ?_); first | (refine wpList_store_H rfl rfl H rfl rfl (by repeat (first | (apply StoreAt.here; (first | exact CellsOf.agg | exact CellsOf.int | exact CellsOf.bool | exact CellsOf.slice | exact CellsOf.string | exact CellsOf.pointer | exact CellsOf.func); (repeat (first | exact SetsAt.nil | apply SetsAt.here | apply SetsAt.there)); exact rfl; exact rfl) | apply StoreAt.there)) ?_; clear H; intro w H)))
        go_roundw
        case rel => exact ⟨i + 1, by omega, by go_num, H.pick (.cons (by repeat (first | exact Take.head | apply Take.tail)) (.cons (by repeat (first | exact Take.head | apply Take.tail)) (.cons (by repeat (first | exact Take.head | apply Take.tail)) (.cons (by repeat (first | exact Take.head | apply Take.tail)) (.cons (by repeat (first | exact Take.head | apply Take.tail)) .nil)))))⟩
        case measure => simp [intOf]; omega
      · have hie : i = c.xs.length := by omega
        subst hie
        clear hi hi0
        obtain ⟨ee, hee⟩ : ∃ ee, (bits .and .i64 (d1.pend / 2 ^ n.toNat) 1 == bits .and .i64 (xb.pend / 2 ^ n.toNat) 1) = ee := ⟨_, rfl⟩
        have hcase : (decide ((0 : Int) < (c.xs.length : Int)) = true ∧ ((c.xs.length : Int) == 0) = false ∧ ee = true ∧ d1.pend = xb.pend) ∨ (decide ((0 : Int) < (c.xs.length : Int)) = false ∧ ((c.xs.length : Int) == 0) = true ∧ ee = true) ∨ (decide ((0 : Int) < (c.xs.length : Int)) = false ∧ ((c.xs.length : Int) == 0) = true ∧ ee = false) := by
          rcases Nat.eq_zero_or_pos c.xs.length with h | h
          · right; cases ee
            · right; exact ⟨decide_eq_false (by omega), by rw [h]; rfl, rfl⟩
            · left; exact ⟨decide_eq_false (by omega), by rw [h]; rfl, rfl⟩
          · left
            have hp : d1.pend = xb.pend := HPE.out h
            exact ⟨decide_eq_true (by omega), by rw [beq_eq_false_iff_ne]; omega, by rw [← hee, hp]; simp, hp⟩
        have HEE := Lib.hid hee
        clear hee
        rcases hcase with ⟨hc1, hc2, rfl, hc3⟩ | ⟨hc1, hc2, rfl⟩ | ⟨hc1, hc2, rfl⟩
        · skip
          have he1 : (bits .and .i64 (d1.pend / 2 ^ n.toNat) 1 == bits .and .i64 (xb.pend / 2 ^ n.toNat) 1) = true := HEE.out
          have he2 : decide (bits .and .i64 (d1.pend / 2 ^ n.toNat) 1 = bits .and .i64 (xb.pend / 2 ^ n.toNat) 1) = true := by simpa using he1
          have hc4 : decide ((c.xs.length : Int) = 0) = false := by simpa using hc2
          have hu := HU.out
          have hm := HM.out
          have hc5 : (d1.pend == xb.pend) = true := by rw [hc3]; simp
          have hc6 : decide (d1.pend = xb.pend) = true := by simpa using hc5
          clear hc3
          have hnil : ¬ c.xs = [] := by intro h; rw [h] at hc1; simp at hc1
          go_wp2_with (first
            | go_skip
            | ((with_reducible refine at_box ?_); first | (refine wpList_box_H rfl rfl H rfl (by first | exact CellsOf.agg | exact CellsOf.int | exact CellsOf.bool | exact CellsOf.slice | exact CellsOf.string | exact CellsOf.pointer | exact CellsOf.func) ?_; clear H; intro bQ w H))
            | ((with_reducible refine at_alloc ?_); first | (refine wpList_alloc_H rfl rfl H ?_; clear H; intro bQ w H))
            | ((with_reducible refine at_load ?_); first | (refine wpList_load_H rfl rfl H rfl (by repeat (first | exact LoadAt.here rfl | apply LoadAt.there)) ?_) | (refine wpList_loads_H rfl rfl H rfl (by repeat (first | (apply LoadsAt.here; repeat (first | exact GetsAt.nil | apply GetsAt.here | apply GetsAt.there)) | apply LoadsAt.there)) ?_))
            | ((with_reducible refine at_store ?_); first | (refine wpList_store_H rfl rfl H rfl rfl (by repeat (first | (apply StoreAt.here; (first | exact CellsOf.agg | exact CellsOf.int | exact CellsOf.bool | exact CellsOf.slice | exact CellsOf.string | exact CellsOf.pointer | exact CellsOf.func); (repeat (first | exact SetsAt.nil | apply SetsAt.here | apply SetsAt.there)); exact rfl; exact rfl) | apply StoreAt.there)) ?_; clear H; intro w H)))
          all_goals first | (exact absurd (by assumption) hnil) | (go_ret; exact ⟨rfl, H.below⟩)
        · skip
          have he1 : (bits .and .i64 (d1.pend / 2 ^ n.toNat) 1 == bits .and .i64 (xb.pend / 2 ^ n.toNat) 1) = true := HEE.out
          have he2 : decide (bits .and .i64 (d1.pend / 2 ^ n.toNat) 1 = bits .and .i64 (xb.pend / 2 ^ n.toNat) 1) = true := by simpa using he1
          have hc4 : decide ((c.xs.length : Int) = 0) = true := by simpa using hc2
          have hu := HU.out
          have hm := HM.out
          have hnil : c.xs = [] := by have h := of_decide_eq_false hc1; exact List.eq_nil_of_length_eq_zero (by omega)
          go_wp2_with (first
            | go_skip
            | ((with_reducible refine at_box ?_); first | (refine wpList_box_H rfl rfl H rfl (by first | exact CellsOf.agg | exact CellsOf.int | exact CellsOf.bool | exact CellsOf.slice | exact CellsOf.string | exact CellsOf.pointer | exact CellsOf.func) ?_; clear H; intro bQ w H))
            | ((with_reducible refine at_alloc ?_); first | (refine wpList_alloc_H rfl rfl H ?_; clear H; intro bQ w H))
            | ((with_reducible refine at_load ?_); first | (refine wpList_load_H rfl rfl H rfl (by repeat (first | exact LoadAt.here rfl | apply LoadAt.there)) ?_) | (refine wpList_loads_H rfl rfl H rfl (by repeat (first | (apply LoadsAt.here; repeat (first | exact GetsAt.nil | apply GetsAt.here | apply GetsAt.there)) | apply LoadsAt.there)) ?_))
            | ((with_reducible refine at_store ?_); first | (refine wpList_store_H rfl rfl H rfl rfl (by repeat (first | (apply StoreAt.here; (first | exact CellsOf.agg | exact CellsOf.int | exact CellsOf.bool | exact CellsOf.slice | exact CellsOf.string | exact CellsOf.pointer | exact CellsOf.func); (repeat (first | exact SetsAt.nil | apply SetsAt.here | apply SetsAt.there)); exact rfl; exact rfl) | apply StoreAt.there)) ?_; clear H; intro w H)))
          all_goals first | (exact absurd hnil (by assumption)) | (go_ret; exact ⟨rfl, H.below⟩)
        · skip
          have he1 : (bits .and .i64 (d1.pend / 2 ^ n.toNat) 1 == bits .and .i64 (xb.pend / 2 ^ n.toNat) 1) = false := HEE.out
          have he2 : decide (bits .and .i64 (d1.pend / 2 ^ n.toNat) 1 = bits .and .i64 (xb.pend / 2 ^ n.toNat) 1) = false := by simpa using he1
          have hc4 : decide ((c.xs.length : Int) = 0) = true := by simpa using hc2
          have hu := HU.out
          have hm := HM.out
          have hnil : c.xs = [] := by have h := of_decide_eq_false hc1; exact List.eq_nil_of_length_eq_zero (by omega)
          go_wp2_with (first
            | go_skip
            | ((with_reducible refine at_box ?_); first | (refine wpList_box_H rfl rfl H rfl (by first | exact CellsOf.agg | exact CellsOf.int | exact CellsOf.bool | exact CellsOf.slice | exact CellsOf.string | exact CellsOf.pointer | exact CellsOf.func) ?_; clear H; intro bQ w H))
            | ((with_reducible refine at_alloc ?_); first | (refine wpList_alloc_H rfl rfl H ?_; clear H; intro bQ w H))
            | ((with_reducible refine at_load ?_); first | (refine wpList_load_H rfl rfl H rfl (by repeat (first | exact LoadAt.here rfl | apply LoadAt.there)) ?_) | (refine wpList_loads_H rfl rfl H rfl (by repeat (first | (apply LoadsAt.here; repeat (first | exact GetsAt.nil | apply GetsAt.here | apply GetsAt.there)) | apply LoadsAt.there)) ?_))
            | ((with_reducible refine at_store ?_); first | (refine wpList_store_H rfl rfl H rfl rfl (by repeat (first | (apply StoreAt.here; (first | exact CellsOf.agg | exact CellsOf.int | exact CellsOf.bool | exact CellsOf.slice | exact CellsOf.string | exact CellsOf.pointer | exact CellsOf.func); (repeat (first | exact SetsAt.nil | apply SetsAt.here | apply SetsAt.there)); exact rfl; exact rfl) | apply StoreAt.there)) ?_; clear H; intro w H)))
          all_goals first | (exact absurd hnil (by assumption)) | (go_ret; exact ⟨rfl, H.below⟩)
end Go.Proofs.Ytaafnenmdombiaa
