/- Contracts of WantOf and Address, of the program and of the reference. No condition but that the argument lies in memory. -/
import Derived.Test.YtaafnenmdombiaaGreatGRead
namespace Go.Proofs.YtaafnenmdombiaaGreat
open Go.RowKit
theorem wantM_eq (g : GV) : wantM g.m = (if canRunM g.m then (if takesM g.m then 1 else
    if (insAtM g.prog.xs g.pc).op == 3 then 3 else if (insAtM g.prog.xs g.pc).op == 4 then 4 else if (insAtM g.prog.xs g.pc).op == 5 then 5 else if (insAtM g.prog.xs g.pc).op == 6 then 6 else if (insAtM g.prog.xs g.pc).op == 7 then 7 else 2) else 0) := rfl
theorem addrM_eq (g : GV) : addrM g.m = (if wantM g.m == 3 || wantM g.m == 4 then (insAtM g.prog.xs g.pc).x else -1) := rfl
set_option maxRecDepth 100000 in
set_option maxHeartbeats 400000 in
theorem wantOf_any (g : GV) (w : World) (hg : Rd Ins.cells 2 w g.prog) (hl : g.prog.xs.length ≤ big) : Calls Tryz.prog 112 #[g.val] w fun e w' => e = .returned (.int .i64 (wantM g.m)) ∧ Below w.heap.size w w' := by
  have HG := Lib.hid hg
  clear hg
  go_enter Tryz.func112, Tryz.ntmps112
  go_wp2_with (refine wpList_load_all rfl 53 _ rfl (w.heap.size) (garr g) _ rfl (Bx.new w _ _) Tryz.underlying53 rfl (by kernel_rfl) ?_)
  go_at_call 182
  refine (canRun_any g _).mono ?_
  rintro e w1 ⟨rfl, hb⟩
  obtain ⟨b1, B1⟩ := bx_call hb
  clear hb
  go_wp2_with (refine wpList_load_all rfl 53 _ rfl (w.heap.size) (garr g) _ rfl b1 Tryz.underlying53 rfl (by kernel_rfl) ?_)
  · go_ret
    exact ⟨ret_int (by rw [wantM_eq]; simp_all), B1⟩
  go_at_call 183
  refine (takesIrq_any g _).mono ?_
  rintro e w2 ⟨rfl, hb⟩
  have b2 := b1.below hb b1.lt
  have B2 := B1.trans (hb.mono B1.size)
  clear hb b1
  have bc := b2.c
  go_wp2_with (refine wpList_load_all rfl 53 _ rfl (w.heap.size) (garr g) _ rfl b2 Tryz.underlying53 rfl (by kernel_rfl) ?_)
  · go_ret
    exact ⟨ret_int (by rw [wantM_eq]; simp_all), B2⟩
  go_at_call 115
  refine (insAt_any g.prog _ _ (HG.out.below B2 (Nat.le_refl _)) hl).mono ?_
  rintro e w3 ⟨rfl, hb⟩
  have b3 := b2.below hb b2.lt
  have B3 := B2.trans (hb.mono B2.size)
  clear hb b2
  clear bc
  go_wp2
  all_goals (go_ret; exact ⟨ret_int (by rw [wantM_eq]; simp_all), B3⟩)
set_option maxRecDepth 100000 in
set_option maxHeartbeats 400000 in
theorem specWantOf_any (g : GV) (w : World) (hg : Rd Ins.cells 2 w g.prog) (hl : g.prog.xs.length ≤ big) : Calls Tryz.prog 95 #[g.val] w fun e w' => e = .returned (.int .i64 (wantM g.m)) ∧ Below w.heap.size w w' := by
  have HG := Lib.hid hg
  clear hg
  go_enter Tryz.func95, Tryz.ntmps95
  go_wp2_with (refine wpList_load_all rfl 53 _ rfl (w.heap.size) (garr g) _ rfl (Bx.new w _ _) Tryz.underlying53 rfl (by kernel_rfl) ?_)
  go_at_call 25
  refine (specCanRun_any g _).mono ?_
  rintro e w1 ⟨rfl, hb⟩
  obtain ⟨b1, B1⟩ := bx_call hb
  clear hb
  go_wp2_with (refine wpList_load_all rfl 53 _ rfl (w.heap.size) (garr g) _ rfl b1 Tryz.underlying53 rfl (by kernel_rfl) ?_)
  · go_ret
    exact ⟨ret_int (by rw [wantM_eq]; simp_all), B1⟩
  go_at_call 175
  refine (specTakesIrq_any g _).mono ?_
  rintro e w2 ⟨rfl, hb⟩
  have b2 := b1.below hb b1.lt
  have B2 := B1.trans (hb.mono B1.size)
  clear hb b1
  have bc := b2.c
  go_wp2_with (refine wpList_load_all rfl 53 _ rfl (w.heap.size) (garr g) _ rfl b2 Tryz.underlying53 rfl (by kernel_rfl) ?_)
  · go_ret
    exact ⟨ret_int (by rw [wantM_eq]; simp_all), B2⟩
  go_at_call 109
  refine (specInsAt_any g.prog _ _ (HG.out.below B2 (Nat.le_refl _)) hl).mono ?_
  rintro e w3 ⟨rfl, hb⟩
  have b3 := b2.below hb b2.lt
  have B3 := B2.trans (hb.mono B2.size)
  clear hb b2
  clear bc
  go_wp2
  all_goals (go_ret; exact ⟨ret_int (by rw [wantM_eq]; simp_all), B3⟩)
set_option maxRecDepth 100000 in
set_option maxHeartbeats 400000 in
theorem address_any (g : GV) (w : World) (hg : Rd Ins.cells 2 w g.prog) (hl : g.prog.xs.length ≤ big) : Calls Tryz.prog 114 #[g.val] w fun e w' => e = .returned (.int .i64 (addrM g.m)) ∧ Below w.heap.size w w' := by
  have HG := Lib.hid hg
  clear hg
  go_enter Tryz.func114, Tryz.ntmps114
  go_wp2_with (refine wpList_load_all rfl 53 _ rfl (w.heap.size) (garr g) _ rfl (Bx.new w _ _) Tryz.underlying53 rfl (by kernel_rfl) ?_)
  go_at_call 112
  refine (wantOf_any g _ (HG.out.below ((Below.refl _ _).alloc (Nat.le_refl _) _) (Nat.le_refl _)) hl).mono ?_
  rintro e w1 ⟨rfl, hb⟩
  obtain ⟨b1, B1⟩ := bx_call hb
  clear hb
  have bc := b1.c
  go_wp2_with (refine wpList_load_all rfl 53 _ rfl (w.heap.size) (garr g) _ rfl b1 Tryz.underlying53 rfl (by kernel_rfl) ?_)
  · skip
    go_at_call 115
    refine (insAt_any g.prog _ _ (HG.out.below B1 (Nat.le_refl _)) hl).mono ?_
    rintro e w2 ⟨rfl, hb⟩
    have b2 := b1.below hb b1.lt
    have B2 := B1.trans (hb.mono B1.size)
    clear hb b1
    clear bc
    go_wp2
    go_ret
    exact ⟨ret_int (by rw [addrM_eq]; simp_all), B2⟩
  · skip
    go_ret
    exact ⟨ret_int (by rw [addrM_eq]; simp_all), B1⟩
  · skip
    go_at_call 115
    refine (insAt_any g.prog _ _ (HG.out.below B1 (Nat.le_refl _)) hl).mono ?_
    rintro e w2 ⟨rfl, hb⟩
    have b2 := b1.below hb b1.lt
    have B2 := B1.trans (hb.mono B1.size)
    clear hb b1
    clear bc
    go_wp2
    go_ret
    exact ⟨ret_int (by rw [addrM_eq]; simp_all), B2⟩
set_option maxRecDepth 100000 in
set_option maxHeartbeats 400000 in
theorem specAddress_any (g : GV) (w : World) (hg : Rd Ins.cells 2 w g.prog) (hl : g.prog.xs.length ≤ big) : Calls Tryz.prog 98 #[g.val] w fun e w' => e = .returned (.int .i64 (addrM g.m)) ∧ Below w.heap.size w w' := by
  have HG := Lib.hid hg
  clear hg
  go_enter Tryz.func98, Tryz.ntmps98
  go_wp2_with (refine wpList_load_all rfl 53 _ rfl (w.heap.size) (garr g) _ rfl (Bx.new w _ _) Tryz.underlying53 rfl (by kernel_rfl) ?_)
  go_at_call 95
  refine (specWantOf_any g _ (HG.out.below ((Below.refl _ _).alloc (Nat.le_refl _) _) (Nat.le_refl _)) hl).mono ?_
  rintro e w1 ⟨rfl, hb⟩
  obtain ⟨b1, B1⟩ := bx_call hb
  clear hb
  have bc := b1.c
  go_wp2_with (refine wpList_load_all rfl 53 _ rfl (w.heap.size) (garr g) _ rfl b1 Tryz.underlying53 rfl (by kernel_rfl) ?_)
  · skip
    go_at_call 109
    refine (specInsAt_any g.prog _ _ (HG.out.below B1 (Nat.le_refl _)) hl).mono ?_
    rintro e w2 ⟨rfl, hb⟩
    have b2 := b1.below hb b1.lt
    have B2 := B1.trans (hb.mono B1.size)
    clear hb b1
    clear bc
    go_wp2
    go_ret
    exact ⟨ret_int (by rw [addrM_eq]; simp_all), B2⟩
  · skip
    go_ret
    exact ⟨ret_int (by rw [addrM_eq]; simp_all), B1⟩
  · skip
    go_at_call 109
    refine (specInsAt_any g.prog _ _ (HG.out.below B1 (Nat.le_refl _)) hl).mono ?_
    rintro e w2 ⟨rfl, hb⟩
    have b2 := b1.below hb b1.lt
    have B2 := B1.trans (hb.mono B1.size)
    clear hb b1
    clear bc
    go_wp2
    go_ret
    exact ⟨ret_int (by rw [addrM_eq]; simp_all), B2⟩
end Go.Proofs.YtaafnenmdombiaaGreat
