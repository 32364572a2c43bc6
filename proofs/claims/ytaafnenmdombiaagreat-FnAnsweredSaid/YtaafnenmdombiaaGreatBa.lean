/- Contracts of GuestAt, ExitOf and SeenOf, of the program and of the reference. No condition but that the arguments lie in memory. -/
import Derived.Test.YtaafnenmdombiaaGreatBb
namespace Go.Proofs.YtaafnenmdombiaaGreat
set_option linter.unusedSimpArgs false
set_option linter.unusedVariables false
set_option linter.unusedSimpArgs false
set_option linter.unusedVariables false
open Go.RowKit
def zeroMG : MG := ⟨[], 0, 0, [], [], ⟨0, 0, false⟩, 0, ⟨0, 0, false, 0⟩, false, []⟩
def hasM (m : MB) (g : Int) : Bool := hasB g m.guests.length
def gAtM (m : MB) (g : Int) : MG := if hasM m g then (m.guests[g.toNat]?).getD zeroMG else zeroMG
theorem Hp.gzero {w0 w : World} {L : List En} (H : Hp w0 w L) : Hp w0 w [.gst gzero] := by
  refine ⟨H.below, ?_, by simp [En.gst, GV.blks, Sl.blk, gzero], by simp [En.gst, GV.blks, Sl.blk, gzero]⟩
  intro e he
  rw [List.mem_singleton] at he
  subst he
  exact ⟨Own.none_ _, Own.none_ _, Own.none_ _, Own.none_ _, by simp [GV.blks, Sl.blk, gzero]⟩
theorem gAtM_hit {B : BV} {k : Nat} {y : GV} (hy : B.gs.xs[k]? = some y) : gAtM B.m k = y.m ∧ hasM B.m k = true := by
  have hk : k < B.gs.xs.length := (List.getElem?_eq_some_iff.1 hy).1
  have h1 : hasM B.m k = true := by simp [hasM, hasB, BV.m, gsOf, hk]
  refine ⟨?_, h1⟩
  unfold gAtM
  rw [if_pos h1]
  simp [BV.m, gsOf, hy]
theorem gAtM_miss {m : MB} {g : Int} (h : hasM m g = false) : gAtM m g = zeroMG := by unfold gAtM; rw [h]; rfl
theorem gAtM_size (m : MB) (g : Int) : (gAtM m g).size ≤ m.size := by
  unfold gAtM
  split
  · cases h : m.guests[g.toNat]? with
    | none => simp [zeroMG, MG.size]
    | some y =>
      have := sum_mem (f := MG.size) (List.mem_of_getElem? h)
      simp only [Option.getD_some]
      unfold MB.size gsSize; omega
  · simp [zeroMG, MG.size]
theorem size_big {g : GV} {m : MG} (e : g.m = m) (h : m.size ≤ 4194304) : GBig g := by
  subst e
  have e : g.m.size = g.prog.xs.length + g.written.xs.length + g.live.xs.length + g.seen.xs.length := rfl
  refine ⟨?_, ?_, ?_, ?_⟩ <;> (unfold big; omega)
set_option maxRecDepth 100000 in
set_option maxHeartbeats 4000000 in
theorem guestAt_c (B : BV) (g : Int) (W0 : World) (R : BRd W0 B) (Z : BBig B) : Calls Tryz.prog 40 #[B.val, .int .i64 g] W0 fun e w' => ∃ d : GV, e = .returned (.tuple #[d.val, .bool (hasM B.m g)]) ∧ d.m = gAtM B.m g ∧ Hp W0 w' [.gst d] := by
  have z2 := Z.gs
  by_cases hg : 0 ≤ g ∧ g < B.gs.xs.length
  · obtain ⟨k, rfl⟩ := Int.eq_ofNat_of_zero_le hg.1
    have hk : k < B.gs.xs.length := by omega
    have HB : Hid (hasB (k : Int) B.gs.xs.length = true) := by show _ = true; simp [hasB, inB]; omega
    obtain ⟨y, hy0⟩ : ∃ y, B.gs.xs[k]? = some y := ⟨_, List.getElem?_eq_getElem hk⟩
    have HY := Lib.hid hy0; clear hy0 hg
    have RY := Lib.hid (R.gsi y (List.mem_of_getElem? HY.out))
    have ZY := Lib.hid (Z.gsi y (List.mem_of_getElem? HY.out))
    have H := Hp.start W0
    go_enter Tryz.func40, Tryz.ntmps40
    go_wp2_with (first
      | go_skip
      | (refine wpList_box_H rfl rfl H rfl (by constructor) ?_; clear H; intro b w H)
      | (refine wpList_alloc_H rfl rfl H ?_; clear H; intro b w H)
      | (refine wpList_load_H rfl rfl H rfl (by repeat constructor) ?_)
      | (refine wpList_loads_H rfl rfl H rfl (by repeat constructor) ?_)
      | (refine wpList_store_H rfl rfl H rfl rfl (by repeat constructor) ?_; clear H; intro w H)
      | (go_at_call 133; refine (has_any _ _ _).mono ?_; rintro e w' ⟨he, hw⟩; subst hw; rw [HB.out] at he; subst he)
      | (refine wpList_index_n rfl rfl B.gs (R.gs.at_ H) rfl rfl rfl hk ?_)
      | (refine wpList_loads_rd rfl rfl B.gs (R.gs.at_ H) rfl y HY.out (by repeat constructor) ?_)
      | (go_at_call 148; ((with_reducible refine (copyGuest_c y _ (RY.out.at_ H) ZY.out).mono ?_)); rintro e w ⟨p1, r1, l1, n1, rfl, x1, x2, x3, x4, ho, hb⟩; have hp1 := Lib.hid x1; have hr1 := Lib.hid x2; have hl1 := Lib.hid x3; have hn1 := Lib.hid x4; clear x1 x2 x3 x4; replace H := (H.add_gst ho hb).slices; clear ho hb))
    refine bodyPost_ret (results_H2 rfl H rfl (by repeat constructor)) rfl ⟨(⟨p1, y.a, y.pc, r1, l1, y.ctl, y.pending, y.exit, y.halted, n1⟩ : GV), ?_, ?_, ((H.pick (.cons (by repeat constructor) (.cons (by repeat constructor) (.cons (by repeat constructor) (.cons (by repeat constructor) .nil))))).guest y.a y.pc y.ctl y.pending y.exit y.halted)⟩
    · rw [(gAtM_hit HY.out).2]; rfl
    · rw [(gAtM_hit HY.out).1]; simp only [GV.m, hp1.out, hr1.out, hl1.out, hn1.out]
  · have HB : Hid (hasB g B.gs.xs.length = false) := by show _ = false; simp [hasB, inB]; omega
    have HM : Hid (hasM B.m g = false) := by show hasM B.m g = false; simp [hasM, hasB, BV.m, gsOf]; omega
    have H := Hp.start W0
    go_enter Tryz.func40, Tryz.ntmps40
    go_wp2_with (first
      | go_skip
      | (refine wpList_box_H rfl rfl H rfl (by constructor) ?_; clear H; intro b w H)
      | (refine wpList_alloc_H rfl rfl H ?_; clear H; intro b w H)
      | (refine wpList_load_H rfl rfl H rfl (by repeat constructor) ?_)
      | (refine wpList_loads_H rfl rfl H rfl (by repeat constructor) ?_)
      | (refine wpList_store_H rfl rfl H rfl rfl (by repeat constructor) ?_; clear H; intro w H)
      | (go_at_call 133; refine (has_any _ _ _).mono ?_; rintro e w' ⟨he, hw⟩; subst hw; rw [HB.out] at he; subst he))
    refine bodyPost_ret (results_H2 rfl H rfl (by repeat constructor)) rfl ⟨gzero, ?_, ?_, H.gzero⟩
    · rw [HM.out]; rfl
    · rw [gAtM_miss HM.out]; rfl
set_option maxRecDepth 100000 in
set_option maxHeartbeats 4000000 in
theorem specGuestAt_c (B : BV) (g : Int) (W0 : World) (R : BRd W0 B) (Z : BBig B) : Calls Tryz.prog 41 #[B.val, .int .i64 g] W0 fun e w' => ∃ d : GV, e = .returned (.tuple #[d.val, .bool (hasM B.m g)]) ∧ d.m = gAtM B.m g ∧ Hp W0 w' [.gst d] := by
  have z2 := Z.gs
  by_cases hg : 0 ≤ g ∧ g < B.gs.xs.length
  · obtain ⟨k, rfl⟩ := Int.eq_ofNat_of_zero_le hg.1
    have hk : k < B.gs.xs.length := by omega
    have HB : Hid (inB (k : Int) 0 ((B.gs.xs.length : Int) - 1) = true) := by show _ = true; simp [hasB, inB]; omega
    obtain ⟨y, hy0⟩ : ∃ y, B.gs.xs[k]? = some y := ⟨_, List.getElem?_eq_getElem hk⟩
    have HY := Lib.hid hy0; clear hy0 hg
    have RY := Lib.hid (R.gsi y (List.mem_of_getElem? HY.out))
    have ZY := Lib.hid (Z.gsi y (List.mem_of_getElem? HY.out))
    have H := Hp.start W0
    go_enter Tryz.func41, Tryz.ntmps41
    go_wp2_with (first
      | go_skip
      | (refine wpList_box_H rfl rfl H rfl (by constructor) ?_; clear H; intro b w H)
      | (refine wpList_alloc_H rfl rfl H ?_; clear H; intro b w H)
      | (refine wpList_load_H rfl rfl H rfl (by repeat constructor) ?_)
      | (refine wpList_loads_H rfl rfl H rfl (by repeat constructor) ?_)
      | (refine wpList_store_H rfl rfl H rfl rfl (by repeat constructor) ?_; clear H; intro w H)
      | (go_at_call 78; refine (in_any _ _ _ _).mono ?_; rintro e w' ⟨he, hw⟩; subst hw; rw [HB.out] at he; subst he)
      | (refine wpList_index_n rfl rfl B.gs (R.gs.at_ H) rfl rfl rfl hk ?_)
      | (refine wpList_loads_rd rfl rfl B.gs (R.gs.at_ H) rfl y HY.out (by repeat constructor) ?_)
      | (go_at_call 149; ((with_reducible refine (l15Copy_c y _ (RY.out.at_ H) ZY.out).mono ?_)); rintro e w ⟨p1, r1, l1, n1, rfl, x1, x2, x3, x4, ho, hb⟩; have hp1 := Lib.hid x1; have hr1 := Lib.hid x2; have hl1 := Lib.hid x3; have hn1 := Lib.hid x4; clear x1 x2 x3 x4; replace H := (H.add_gst ho hb).slices; clear ho hb))
    refine bodyPost_ret (results_H2 rfl H rfl (by repeat constructor)) rfl ⟨(⟨p1, y.a, y.pc, r1, l1, y.ctl, y.pending, y.exit, y.halted, n1⟩ : GV), ?_, ?_, ((H.pick (.cons (by repeat constructor) (.cons (by repeat constructor) (.cons (by repeat constructor) (.cons (by repeat constructor) .nil))))).guest y.a y.pc y.ctl y.pending y.exit y.halted)⟩
    · rw [(gAtM_hit HY.out).2]; rfl
    · rw [(gAtM_hit HY.out).1]; simp only [GV.m, hp1.out, hr1.out, hl1.out, hn1.out]
  · have HB : Hid (inB g 0 ((B.gs.xs.length : Int) - 1) = false) := by show _ = false; simp [hasB, inB]; omega
    have HM : Hid (hasM B.m g = false) := by show hasM B.m g = false; simp [hasM, hasB, BV.m, gsOf]; omega
    have H := Hp.start W0
    go_enter Tryz.func41, Tryz.ntmps41
    go_wp2_with (first
      | go_skip
      | (refine wpList_box_H rfl rfl H rfl (by constructor) ?_; clear H; intro b w H)
      | (refine wpList_alloc_H rfl rfl H ?_; clear H; intro b w H)
      | (refine wpList_load_H rfl rfl H rfl (by repeat constructor) ?_)
      | (refine wpList_loads_H rfl rfl H rfl (by repeat constructor) ?_)
      | (refine wpList_store_H rfl rfl H rfl rfl (by repeat constructor) ?_; clear H; intro w H)
      | (go_at_call 78; refine (in_any _ _ _ _).mono ?_; rintro e w' ⟨he, hw⟩; subst hw; rw [HB.out] at he; subst he))
    refine bodyPost_ret (results_H2 rfl H rfl (by repeat constructor)) rfl ⟨gzero, ?_, ?_, H.gzero⟩
    · rw [HM.out]; rfl
    · rw [gAtM_miss HM.out]; rfl
set_option maxRecDepth 100000 in
set_option maxHeartbeats 4000000 in
theorem exitOf_c (B : BV) (g : Int) (W0 : World) (R : BRd W0 B) (Z : BBig B) : Calls Tryz.prog 62 #[B.val, .int .i64 g] W0 fun e w' => e = .returned ((gAtM B.m g).exit).val ∧ Hp W0 w' [] := by
  have H := Hp.start W0
  go_enter Tryz.func62, Tryz.ntmps62
  go_wp2_with (first
    | go_skip
    | (refine wpList_box_H rfl rfl H rfl (by constructor) ?_; clear H; intro b w H)
    | (refine wpList_alloc_H rfl rfl H ?_; clear H; intro b w H)
    | (refine wpList_load_H rfl rfl H rfl (by repeat constructor) ?_)
    | (refine wpList_loads_H rfl rfl H rfl (by repeat constructor) ?_)
    | (refine wpList_store_H rfl rfl H rfl rfl (by repeat constructor) ?_; clear H; intro w H)
    | (go_at_call 40; refine (guestAt_c B g _ (R.at_ H) Z).mono ?_; rintro e w ⟨d, rfl, x1, K⟩; have h1 := Lib.hid x1; clear x1; replace H := H.add_all K; clear K))
  refine bodyPost_ret (results_H rfl H rfl (by repeat constructor)) rfl ⟨?_, H.pick .nil⟩
  rw [← h1.out]; rfl
end Go.Proofs.YtaafnenmdombiaaGreat
