/- Contracts of the laws' own comparisons of memories, lists of guests and bare machines. No condition but that the arguments lie in memory. -/
import Derived.Test.YtaafnenmdombiaaGreatBb
import Derived.Test.YtaafnenmdombiaaGreatGd
import Derived.Test.YtaafnenmdombiaaGreatSm
namespace Go.Proofs.YtaafnenmdombiaaGreat
set_option linter.unusedSimpArgs false
set_option linter.unusedVariables false
open Go.RowKit
theorem lawGuest2_any (g h : GV) (w : World) (hg : GRd w g) (hh : GRd w h) (hz : GBig g) : Calls Tryz.prog 46 #[.agg (GV.cells g).toArray, .agg (GV.cells h).toArray] w fun e w' => e = .returned (.bool (g.m == h.m)) ∧ Below w.heap.size w w' := lawGuest_any g h w hg hh hz
set_option maxRecDepth 100000 in
set_option maxHeartbeats 2000000 in
theorem lawLists_c (s t : Sl (Sl Int)) (W0 : World) (R0 : Rd hcells 1 W0 s) (R1 : Rd hcells 1 W0 t) (Ri0 : ∀ x ∈ s.xs, Rd icell 1 W0 x) (Ri1 : ∀ x ∈ t.xs, Rd icell 1 W0 x) (Z : s.xs.length ≤ 4194304) (Zi : ∀ x ∈ s.xs, x.xs.length ≤ 4194304) : Calls Tryz.prog 92 #[.slice s.A s.xs.length s.c, .slice t.A t.xs.length t.c] W0 fun e w' => e = .returned (.bool (s.xs.map (fun x => x.xs) == t.xs.map (fun x => x.xs))) ∧ Hp W0 w' [] := by
  have H := Hp.start W0
  by_cases hl : s.xs.length = t.xs.length
  · have l1 : (s.xs.length == t.xs.length) = true := beq_iff_eq.2 hl
    have l2 : (s.xs.length != t.xs.length) = false := by simp [hl]
    have l3 : ((s.xs.length : Int) == (t.xs.length : Int)) = true := by simp [hl]
    have l4 : ((s.xs.length : Int) != (t.xs.length : Int)) = false := by simp [hl]
    have HL := Lib.hid hl; clear hl
    go_enter Tryz.func92, Tryz.ntmps92
    go_wp2
    clear l1 l2 l3 l4
    go_loopw [5] (fun i wr => ∃ k : Nat, k ≤ s.xs.length ∧ i = .int .i64 k ∧ (s.xs.take k).map (fun x => x.xs) = (t.xs.take k).map (fun x => x.xs) ∧ Hp W0 wr []) (fun i _ => s.xs.length - (intOf i).toNat)
    case atStart => exact ⟨0, by omega, rfl, by simp, H⟩
    case round =>
      clear H
      obtain ⟨k, hk, rfl, ht, H⟩ := hrel
      have HT := Lib.hid ht; clear ht
      by_cases hk0 : k < s.xs.length
      · have hk1 : k < t.xs.length := by rw [← HL.out]; exact hk0
        obtain ⟨x, hx0⟩ : ∃ x, s.xs[k]? = some x := ⟨_, List.getElem?_eq_getElem hk0⟩
        have HY0 := Lib.hid hx0; clear hx0
        obtain ⟨y, hy0⟩ : ∃ y, t.xs[k]? = some y := ⟨_, List.getElem?_eq_getElem hk1⟩
        have HY1 := Lib.hid hy0; clear hy0
        have RX := Lib.hid (Ri0 x (List.mem_of_getElem? HY0.out))
        have RY := Lib.hid (Ri1 y (List.mem_of_getElem? HY1.out))
        have ZX := Lib.hid (Zi x (List.mem_of_getElem? HY0.out))
        cases e1 : (x.xs == y.xs)
        all_goals
          go_wp2
          refine wp_region_H (by kernel_rfl) (by kernel_rfl) H ?_
          intro C hC1 hC2
          repeat (first
            | go_big_quiet_skip
            | (go_big_quiet_want; (first
              | (refine quiet_index_nat hC1 rfl s R0 rfl rfl hk0 ?_; simp only [put_some, List.set_cons_succ, List.set_cons_zero]; go_big_quiet_on)
              | (refine quiet_index_nat hC1 rfl t R1 rfl rfl hk1 ?_; simp only [put_some, List.set_cons_succ, List.set_cons_zero]; go_big_quiet_on)
              | (refine quiet_load_rd hC1 rfl s R0 rfl x HY0.out rfl ?_; simp only [put_some, List.set_cons_succ, List.set_cons_zero]; go_big_quiet_on)
              | (refine quiet_load_rd hC1 rfl t R1 rfl y HY1.out rfl ?_; simp only [put_some, List.set_cons_succ, List.set_cons_zero]; go_big_quiet_on)
              | (go_big_quiet_op; (first | go_big_quiet_on | (apply Exists.intro; refine ⟨fun w hw => ?_, ?_⟩; (focus (exact (lawInts_c x y w (RX.out.at_ (hC1 _ hw)) (RY.out.at_ (hC1 _ hw)) ZX.out).mono fun e w' h => ⟨h.1.trans (by rw [e1]), hC2 _ ((hC1 _ hw).still h.2)⟩)); go_big_quiet_on) | (refine ⟨_, fun _ _ => rfl, ?_⟩; go_big_quiet_on))))))
          refine wpQuiet_nil ?_
          clear hC1 hC2
          clear H
          intro w H
          go_wp2
        all_goals first
          | (go_ret; exact ⟨ret_bool (mapt_ne HY0.out HY1.out (by intro h; rw [h] at e1; simp at e1)).symm, H⟩)
          | (go_roundw
             case rel => exact ⟨k + 1, by omega, by go_num, mapt_succ HT.out HY0.out HY1.out (eq_of_beq e1), H⟩
             case measure => simp [intOf]; omega)
      · have hke : k = s.xs.length := by omega
        subst hke
        have hn0 : t.xs.length ≤ s.xs.length := by rw [HL.out]; exact Nat.le_refl _
        go_wp2
        go_ret
        exact ⟨ret_bool (mapt_all HL.out HT.out).symm, H⟩
  · have l1 : (s.xs.length == t.xs.length) = false := by simp [hl]
    have l2 : (s.xs.length != t.xs.length) = true := by simp [hl]
    have l3 : ((s.xs.length : Int) == (t.xs.length : Int)) = false := by simp; omega
    have l4 : ((s.xs.length : Int) != (t.xs.length : Int)) = true := by simp; omega
    go_enter Tryz.func92, Tryz.ntmps92
    go_wp2
    go_ret
    exact ⟨ret_bool (mapt_len hl).symm, H⟩
set_option maxRecDepth 100000 in
set_option maxHeartbeats 2000000 in
theorem lawGs_c (s t : Sl (GV)) (W0 : World) (R0 : Rd GV.cells 15 W0 s) (R1 : Rd GV.cells 15 W0 t) (Ri0 : ∀ x ∈ s.xs, GRd W0 x) (Ri1 : ∀ x ∈ t.xs, GRd W0 x) (Z : s.xs.length ≤ 4194304) (Zi : ∀ x ∈ s.xs, GBig x) : Calls Tryz.prog 93 #[.slice s.A s.xs.length s.c, .slice t.A t.xs.length t.c] W0 fun e w' => e = .returned (.bool (s.xs.map (fun x => x.m) == t.xs.map (fun x => x.m))) ∧ Hp W0 w' [] := by
  have H := Hp.start W0
  by_cases hl : s.xs.length = t.xs.length
  · have l1 : (s.xs.length == t.xs.length) = true := beq_iff_eq.2 hl
    have l2 : (s.xs.length != t.xs.length) = false := by simp [hl]
    have l3 : ((s.xs.length : Int) == (t.xs.length : Int)) = true := by simp [hl]
    have l4 : ((s.xs.length : Int) != (t.xs.length : Int)) = false := by simp [hl]
    have HL := Lib.hid hl; clear hl
    go_enter Tryz.func93, Tryz.ntmps93
    go_wp2
    clear l1 l2 l3 l4
    go_loopw [5] (fun i wr => ∃ k : Nat, k ≤ s.xs.length ∧ i = .int .i64 k ∧ (s.xs.take k).map (fun x => x.m) = (t.xs.take k).map (fun x => x.m) ∧ Hp W0 wr []) (fun i _ => s.xs.length - (intOf i).toNat)
    case atStart => exact ⟨0, by omega, rfl, by simp, H⟩
    case round =>
      clear H
      obtain ⟨k, hk, rfl, ht, H⟩ := hrel
      have HT := Lib.hid ht; clear ht
      by_cases hk0 : k < s.xs.length
      · have hk1 : k < t.xs.length := by rw [← HL.out]; exact hk0
        obtain ⟨x, hx0⟩ : ∃ x, s.xs[k]? = some x := ⟨_, List.getElem?_eq_getElem hk0⟩
        have HY0 := Lib.hid hx0; clear hx0
        obtain ⟨y, hy0⟩ : ∃ y, t.xs[k]? = some y := ⟨_, List.getElem?_eq_getElem hk1⟩
        have HY1 := Lib.hid hy0; clear hy0
        have RX := Lib.hid (Ri0 x (List.mem_of_getElem? HY0.out))
        have RY := Lib.hid (Ri1 y (List.mem_of_getElem? HY1.out))
        have ZX := Lib.hid (Zi x (List.mem_of_getElem? HY0.out))
        cases e1 : (x.m == y.m)
        all_goals
          go_wp2
          refine wp_region_H (by kernel_rfl) (by kernel_rfl) H ?_
          intro C hC1 hC2
          repeat (first
            | go_big_quiet_skip
            | (go_big_quiet_want; (first
              | (refine quiet_index_nat hC1 rfl s R0 rfl rfl hk0 ?_; simp only [put_some, List.set_cons_succ, List.set_cons_zero]; go_big_quiet_on)
              | (refine quiet_index_nat hC1 rfl t R1 rfl rfl hk1 ?_; simp only [put_some, List.set_cons_succ, List.set_cons_zero]; go_big_quiet_on)
              | (refine quiet_loads_rd hC1 rfl s R0 rfl x HY0.out (by repeat constructor) ?_; simp only [put_some, List.set_cons_succ, List.set_cons_zero]; go_big_quiet_on)
              | (refine quiet_loads_rd hC1 rfl t R1 rfl y HY1.out (by repeat constructor) ?_; simp only [put_some, List.set_cons_succ, List.set_cons_zero]; go_big_quiet_on)
              | (go_big_quiet_op; (first | go_big_quiet_on | (apply Exists.intro; refine ⟨fun w hw => ?_, ?_⟩; (focus (exact (lawGuest2_any x y w (RX.out.at_ (hC1 _ hw)) (RY.out.at_ (hC1 _ hw)) ZX.out).mono fun e w' h => ⟨h.1.trans (by rw [e1]), hC2 _ ((hC1 _ hw).still h.2)⟩)); go_big_quiet_on) | (refine ⟨_, fun _ _ => rfl, ?_⟩; go_big_quiet_on))))))
          refine wpQuiet_nil ?_
          clear hC1 hC2
          clear H
          intro w H
          go_wp2
        all_goals first
          | (go_ret; exact ⟨ret_bool (mapt_ne HY0.out HY1.out (by intro h; rw [h] at e1; simp at e1)).symm, H⟩)
          | (go_roundw
             case rel => exact ⟨k + 1, by omega, by go_num, mapt_succ HT.out HY0.out HY1.out (eq_of_beq e1), H⟩
             case measure => simp [intOf]; omega)
      · have hke : k = s.xs.length := by omega
        subst hke
        have hn0 : t.xs.length ≤ s.xs.length := by rw [HL.out]; exact Nat.le_refl _
        go_wp2
        go_ret
        exact ⟨ret_bool (mapt_all HL.out HT.out).symm, H⟩
  · have l1 : (s.xs.length == t.xs.length) = false := by simp [hl]
    have l2 : (s.xs.length != t.xs.length) = true := by simp [hl]
    have l3 : ((s.xs.length : Int) == (t.xs.length : Int)) = false := by simp; omega
    have l4 : ((s.xs.length : Int) != (t.xs.length : Int)) = true := by simp; omega
    go_enter Tryz.func93, Tryz.ntmps93
    go_wp2
    go_ret
    exact ⟨ret_bool (mapt_len hl).symm, H⟩
set_option maxRecDepth 100000 in
set_option maxHeartbeats 4000000 in
theorem lawBare_c (B C : BV) (W0 : World) (R : BRd W0 B) (Rc : BRd W0 C) (Z : BBig B) : Calls Tryz.prog 20 #[B.val, C.val] W0 fun e w' => e = .returned (.bool (B.m == C.m)) ∧ Hp W0 w' [] := by
  have z1 := Z.mem
  have z2 := Z.gs
  have z3 := Z.outs
  cases e1 : (B.mem.xs.map (fun x => x.xs) == C.mem.xs.map (fun x => x.xs)) <;> cases e2 : (B.gs.xs.map (fun x => x.m) == C.gs.xs.map (fun x => x.m)) <;> cases e3 : (B.outs.xs == C.outs.xs) <;> cases e4 : (B.pend == C.pend)
  all_goals
    have H := Hp.start W0
    go_enter Tryz.func20, Tryz.ntmps20
    go_wp2_with (first
      | go_skip
      | ((with_reducible refine at_box ?_); first | (refine wpList_box_H rfl rfl H rfl (by constructor) ?_; clear H; intro b w H))
      | ((with_reducible refine at_alloc ?_); first | (refine wpList_alloc_H rfl rfl H ?_; clear H; intro b w H))
      | ((with_reducible refine at_load ?_); first | (refine wpList_load_H rfl rfl H rfl (by repeat constructor) ?_) | (refine wpList_loads_H rfl rfl H rfl (by repeat constructor) ?_))
      | ((with_reducible refine at_store ?_); first | (refine wpList_store_H rfl rfl H rfl rfl (by repeat constructor) ?_; clear H; intro w H))
      | (go_at_call 92; refine (lawLists_c B.mem C.mem _ (R.mem.at_ H) (Rc.mem.at_ H) (fun x hx => (R.memi x hx).at_ H) (fun x hx => (Rc.memi x hx).at_ H) z1 Z.memi).mono ?_; rintro e w ⟨he, K⟩; rw [e1] at he; subst he; replace H := H.add_all K; clear K)
      | (go_at_call 93; refine (lawGs_c B.gs C.gs _ (R.gs.at_ H) (Rc.gs.at_ H) (fun x hx => (R.gsi x hx).at_ H) (fun x hx => (Rc.gsi x hx).at_ H) z2 Z.gsi).mono ?_; rintro e w ⟨he, K⟩; rw [e2] at he; subst he; replace H := H.add_all K; clear K)
      | (go_at_call 57; refine (lawInts_c B.outs C.outs _ (R.outs.at_ H) (Rc.outs.at_ H) z3).mono ?_; rintro e w ⟨he, hb⟩; rw [e3] at he; subst he; replace H := H.still hb; clear hb))
    go_ret
    exact ⟨ret_bool (by rw [meqB, e1, e2, e3, e4]; rfl), H.prefix_ (M := [])⟩
end Go.Proofs.YtaafnenmdombiaaGreat
