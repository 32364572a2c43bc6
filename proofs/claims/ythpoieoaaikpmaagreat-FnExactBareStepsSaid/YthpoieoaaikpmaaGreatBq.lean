/- The laws' own comparisons of slices of slices and of guests. No condition but that the arguments lie in memory. -/
import Derived.Test.YthpoieoaaikpmaaGreatBs
namespace Go.Proofs.YthpoieoaaikpmaaGreat
set_option linter.unusedSimpArgs false
set_option linter.unusedVariables false
open Go.RowKit
theorem mapt_succ {α β : Type} {f : α → β} {xs ys : List α} {k : Nat} {x y : α} (h : (xs.take k).map f = (ys.take k).map f) (hx : xs[k]? = some x) (hy : ys[k]? = some y) (e : f x = f y) : (xs.take (k + 1)).map f = (ys.take (k + 1)).map f := by
  rw [List.take_add_one, List.take_add_one, List.map_append, List.map_append, h, hx, hy]; simp [e]
theorem mapt_all {α β : Type} [BEq β] [LawfulBEq β] {f : α → β} {xs ys : List α} (hl : xs.length = ys.length) (h : (xs.take xs.length).map f = (ys.take xs.length).map f) : (xs.map f == ys.map f) = true := by
  rw [List.take_length, hl, List.take_length] at h; simp [h]
theorem mapt_ne {α β : Type} [BEq β] [LawfulBEq β] {f : α → β} {xs ys : List α} {k : Nat} {x y : α} (hx : xs[k]? = some x) (hy : ys[k]? = some y) (e : f x ≠ f y) : (xs.map f == ys.map f) = false := by
  rw [beq_eq_false_iff_ne]; intro h
  have h1 : (xs.map f)[k]? = (ys.map f)[k]? := by rw [h]
  rw [List.getElem?_map, List.getElem?_map, hx, hy] at h1
  exact e (by simpa using h1)
theorem mapt_len {α β : Type} [BEq β] [LawfulBEq β] {f : α → β} {xs ys : List α} (h : ¬ xs.length = ys.length) : (xs.map f == ys.map f) = false := by
  rw [beq_eq_false_iff_ne]; intro e
  exact h (by have := congrArg List.length e; simpa using this)
theorem eqGuest2_any (g h : GV) (w : World) (hg : GRd w g) (hh : GRd w h) (hz : GBig g) : Calls Tryz.prog 115 #[.agg (GV.cells g).toArray, .agg (GV.cells h).toArray] w fun e w' => e = .returned (.bool (g.m == h.m)) ∧ Below w.heap.size w w' := eqGuest_any g h w hg hh hz
set_option linter.unusedSimpArgs false in
set_option linter.unusedVariables false in
set_option maxRecDepth 100000 in
set_option maxHeartbeats 2000000 in
theorem eqIntSS_c (s t : Sl (Sl Int)) (W0 : World) (R0 : Rd hcells 1 W0 s) (R1 : Rd hcells 1 W0 t) (Ri0 : ∀ x ∈ s.xs, Rd icell 1 W0 x) (Ri1 : ∀ x ∈ t.xs, Rd icell 1 W0 x) (Z : s.xs.length ≤ 4194304) (Zi : ∀ x ∈ s.xs, x.xs.length ≤ 4194304) : Calls Tryz.prog 71 #[.slice s.A s.xs.length s.c, .slice t.A t.xs.length t.c] W0 fun e w' => e = .returned (.bool (s.xs.map (fun x => x.xs) == t.xs.map (fun x => x.xs))) ∧ Hp W0 w' [] := by
  have H := Hp.start W0
  by_cases hl : s.xs.length = t.xs.length
  · have l1 : (s.xs.length == t.xs.length) = true := beq_iff_eq.2 hl
    have l2 : (s.xs.length != t.xs.length) = false := by simp [hl]
    have l3 : ((s.xs.length : Int) == (t.xs.length : Int)) = true := by simp [hl]
    have l4 : ((s.xs.length : Int) != (t.xs.length : Int)) = false := by simp [hl]
    have HL := Lib.hid hl; clear hl
    go_enter Tryz.func71, Tryz.ntmps71
    go_wp2
    clear l1 l2 l3 l4
    go_loopw [5] (fun i wr => ∃ k : Nat, k ≤ s.xs.length ∧ i = .int .i64 k ∧ (s.xs.take k).map (fun x => x.xs) = (t.xs.take k).map (fun x => x.xs) ∧ Hp W0 wr []) (fun i _ => s.xs.length - (intOf i).toNat)
    case atStart => exact ⟨0, by omega, rfl, by simp, H⟩
    case round =>
      clear H
      obtain ⟨k, hk, rfl, ht, H⟩ := hrel
      have HT := Lib.hid ht; clear ht
      by_cases hk0 : k < s.xs.length
      · have hk1 : k < t.xs.length := by rw [← HL.out]; exact hk0
        obtain ⟨x, hx0⟩ : ∃ x, s.xs[k]? = some x := ⟨_, List.getElem?_eq_getElem hk0⟩
        have HY0 := Lib.hid hx0; clear hx0
        obtain ⟨y, hy0⟩ : ∃ y, t.xs[k]? = some y := ⟨_, List.getElem?_eq_getElem hk1⟩
        have HY1 := Lib.hid hy0; clear hy0
        have RX := Lib.hid (Ri0 x (List.mem_of_getElem? HY0.out))
        have RY := Lib.hid (Ri1 y (List.mem_of_getElem? HY1.out))
        have ZX := Lib.hid (Zi x (List.mem_of_getElem? HY0.out))
        cases e1 : (x.xs == y.xs)
        all_goals
          go_wp2
          refine wp_region_H (by kernel_rfl) (by kernel_rfl) H ?_
          intro C hC1 hC2
          repeat (first
            | go_big_quiet_skip
            | (go_big_quiet_want; (first
              | (refine quiet_index_nat hC1 rfl s R0 rfl rfl hk0 ?_; simp only [put_some, List.set_cons_succ, List.set_cons_zero]; go_big_quiet_on)
              | (refine quiet_index_nat hC1 rfl t R1 rfl rfl hk1 ?_; simp only [put_some, List.set_cons_succ, List.set_cons_zero]; go_big_quiet_on)
              | (refine quiet_load_rd hC1 rfl s R0 rfl x HY0.out rfl ?_; simp only [put_some, List.set_cons_succ, List.set_cons_zero]; go_big_quiet_on)
              | (refine quiet_load_rd hC1 rfl t R1 rfl y HY1.out rfl ?_; simp only [put_some, List.set_cons_succ, List.set_cons_zero]; go_big_quiet_on)
              | (go_big_quiet_op; (first | go_big_quiet_on | (apply Exists.intro; refine ⟨fun w hw => ?_, ?_⟩; (focus (exact (eqIntS_any x y w (RX.out.at_ (hC1 _ hw)) (RY.out.at_ (hC1 _ hw)) ZX.out).mono fun e w' h => ⟨h.1.trans (by rw [e1]), hC2 _ ((hC1 _ hw).still h.2)⟩)); go_big_quiet_on) | (refine ⟨_, fun _ _ => rfl, ?_⟩; go_big_quiet_on))))))
          refine wpQuiet_nil ?_
          clear hC1 hC2
          clear H
          intro w H
          go_wp2
        all_goals first
          | (go_ret; exact ⟨ret_bool (mapt_ne HY0.out HY1.out (by intro h; rw [h] at e1; simp at e1)).symm, H⟩)
          | (go_roundw
             case rel => exact ⟨k + 1, by omega, by go_num, mapt_succ HT.out HY0.out HY1.out (eq_of_beq e1), H⟩
             case measure => simp [intOf]; omega)
      · have hke : k = s.xs.length := by omega
        subst hke
        have hn0 : t.xs.length ≤ s.xs.length := by rw [HL.out]; exact Nat.le_refl _
        go_wp2
        go_ret
        exact ⟨ret_bool (mapt_all HL.out HT.out).symm, H⟩
  · have l1 : (s.xs.length == t.xs.length) = false := by simp [hl]
    have l2 : (s.xs.length != t.xs.length) = true := by simp [hl]
    have l3 : ((s.xs.length : Int) == (t.xs.length : Int)) = false := by simp; omega
    have l4 : ((s.xs.length : Int) != (t.xs.length : Int)) = true := by simp; omega
    go_enter Tryz.func71, Tryz.ntmps71
    go_wp2
    go_ret
    exact ⟨ret_bool (mapt_len hl).symm, H⟩
set_option linter.unusedSimpArgs false in
set_option linter.unusedVariables false in
set_option maxRecDepth 100000 in
set_option maxHeartbeats 2000000 in
theorem eqGuestS_c (s t : Sl (GV)) (W0 : World) (R0 : Rd GV.cells 15 W0 s) (R1 : Rd GV.cells 15 W0 t) (Ri0 : ∀ x ∈ s.xs, GRd W0 x) (Ri1 : ∀ x ∈ t.xs, GRd W0 x) (Z : s.xs.length ≤ 4194304) (Zi : ∀ x ∈ s.xs, GBig x) : Calls Tryz.prog 72 #[.slice s.A s.xs.length s.c, .slice t.A t.xs.length t.c] W0 fun e w' => e = .returned (.bool (s.xs.map (fun x => x.m) == t.xs.map (fun x => x.m))) ∧ Hp W0 w' [] := by
  have H := Hp.start W0
  by_cases hl : s.xs.length = t.xs.length
  · have l1 : (s.xs.length == t.xs.length) = true := beq_iff_eq.2 hl
    have l2 : (s.xs.length != t.xs.length) = false := by simp [hl]
    have l3 : ((s.xs.length : Int) == (t.xs.length : Int)) = true := by simp [hl]
    have l4 : ((s.xs.length : Int) != (t.xs.length : Int)) = false := by simp [hl]
    have HL := Lib.hid hl; clear hl
    go_enter Tryz.func72, Tryz.ntmps72
    go_wp2
    clear l1 l2 l3 l4
    go_loopw [5] (fun i wr => ∃ k : Nat, k ≤ s.xs.length ∧ i = .int .i64 k ∧ (s.xs.take k).map (fun x => x.m) = (t.xs.take k).map (fun x => x.m) ∧ Hp W0 wr []) (fun i _ => s.xs.length - (intOf i).toNat)
    case atStart => exact ⟨0, by omega, rfl, by simp, H⟩
    case round =>
      clear H
      obtain ⟨k, hk, rfl, ht, H⟩ := hrel
      have HT := Lib.hid ht; clear ht
      by_cases hk0 : k < s.xs.length
      · have hk1 : k < t.xs.length := by rw [← HL.out]; exact hk0
        obtain ⟨x, hx0⟩ : ∃ x, s.xs[k]? = some x := ⟨_, List.getElem?_eq_getElem hk0⟩
        have HY0 := Lib.hid hx0; clear hx0
        obtain ⟨y, hy0⟩ : ∃ y, t.xs[k]? = some y := ⟨_, List.getElem?_eq_getElem hk1⟩
        have HY1 := Lib.hid hy0; clear hy0
        have RX := Lib.hid (Ri0 x (List.mem_of_getElem? HY0.out))
        have RY := Lib.hid (Ri1 y (List.mem_of_getElem? HY1.out))
        have ZX := Lib.hid (Zi x (List.mem_of_getElem? HY0.out))
        cases e1 : (x.m == y.m)
        all_goals
          go_wp2
          refine wp_region_H (by kernel_rfl) (by kernel_rfl) H ?_
          intro C hC1 hC2
          repeat (first
            | go_big_quiet_skip
            | (go_big_quiet_want; (first
              | (refine quiet_index_nat hC1 rfl s R0 rfl rfl hk0 ?_; simp only [put_some, List.set_cons_succ, List.set_cons_zero]; go_big_quiet_on)
              | (refine quiet_index_nat hC1 rfl t R1 rfl rfl hk1 ?_; simp only [put_some, List.set_cons_succ, List.set_cons_zero]; go_big_quiet_on)
              | (refine quiet_loads_rd hC1 rfl s R0 rfl x HY0.out (by repeat (first | exact GetsAt.nil | apply GetsAt.here | apply GetsAt.there)) ?_; simp only [put_some, List.set_cons_succ, List.set_cons_zero]; go_big_quiet_on)
              | (refine quiet_loads_rd hC1 rfl t R1 rfl y HY1.out (by repeat (first | exact GetsAt.nil | apply GetsAt.here | apply GetsAt.there)) ?_; simp only [put_some, List.set_cons_succ, List.set_cons_zero]; go_big_quiet_on)
              | (go_big_quiet_op; (first | go_big_quiet_on | (apply Exists.intro; refine ⟨fun w hw => ?_, ?_⟩; (focus (exact (eqGuest2_any x y w (RX.out.at_ (hC1 _ hw)) (RY.out.at_ (hC1 _ hw)) ZX.out).mono fun e w' h => ⟨h.1.trans (by rw [e1]), hC2 _ ((hC1 _ hw).still h.2)⟩)); go_big_quiet_on) | (refine ⟨_, fun _ _ => rfl, ?_⟩; go_big_quiet_on))))))
          refine wpQuiet_nil ?_
          clear hC1 hC2
          clear H
          intro w H
          go_wp2
        all_goals first
          | (go_ret; exact ⟨ret_bool (mapt_ne HY0.out HY1.out (by intro h; rw [h] at e1; simp at e1)).symm, H⟩)
          | (go_roundw
             case rel => exact ⟨k + 1, by omega, by go_num, mapt_succ HT.out HY0.out HY1.out (eq_of_beq e1), H⟩
             case measure => simp [intOf]; omega)
      · have hke : k = s.xs.length := by omega
        subst hke
        have hn0 : t.xs.length ≤ s.xs.length := by rw [HL.out]; exact Nat.le_refl _
        go_wp2
        go_ret
        exact ⟨ret_bool (mapt_all HL.out HT.out).symm, H⟩
  · have l1 : (s.xs.length == t.xs.length) = false := by simp [hl]
    have l2 : (s.xs.length != t.xs.length) = true := by simp [hl]
    have l3 : ((s.xs.length : Int) == (t.xs.length : Int)) = false := by simp; omega
    have l4 : ((s.xs.length : Int) != (t.xs.length : Int)) = true := by simp; omega
    go_enter Tryz.func72, Tryz.ntmps72
    go_wp2
    go_ret
    exact ⟨ret_bool (mapt_len hl).symm, H⟩
end Go.Proofs.YthpoieoaaikpmaaGreat
