/- Contracts of the reference's draws of guests. No condition but that the argument lies in memory. -/
import Derived.Maps.RangeWalk
import Derived.Test.YtaafnenmdombiaaGreatDb
import Derived.Test.YtaafnenmdombiaaGreatGd
namespace Go.Proofs.YtaafnenmdombiaaGreat
set_option linter.unusedSimpArgs false
set_option linter.unusedVariables false
open Go.RowKit
/-- The sizes of a drawn guest. -/
abbrev GSm (g : GV) : Prop := g.prog.xs.length ≤ 16 ∧ g.written.xs.length ≤ 4 ∧ g.live.xs.length ≤ 4 ∧ g.seen.xs.length ≤ 44
section
variable {P : Program} {ops : Array Oper} {o : Oper} {a : Act} {w0 w : World} {L : List En} {Q : Go.Exit → Act → World → Prop} {K : Act → World → Prop} {α : Type} {enc : α → List Value} {sz bytes e : Nat}
theorem wp_oneD_H {t : TypeId} {x : Operand} (ho : o.op = .buildSlice t 1 #[(0, x)]) (H : Hp w0 w L) [hE : EI P t enc sz bytes e] {zc : List Value} [hZ : TyZ P e zc] (y : α) {v : Value} {cs : List Value} (hx : a.eval x = v) (hv : CellsOf v cs) (he : enc y = cs) (hsm : sz ≤ 2 ^ 24)
    (h : ∀ b w', Hp w0 w' (.sl enc sz e ⟨some ⟨b, 0, none⟩, 1, [y]⟩ :: L) → K (a.put o.dst (.slice (some ⟨b, 0, none⟩) 1 1)) w') : o.wp P a w K Q := by
  subst he
  have h1 := fill_one (cur := (Array.range ([y].length * sz)).map (zc.toArray[· % zc.toArray.size]!)) hv.eq (hE.info.henc y) hE.info.hsz (by simp)
  have hf : Instr.fill (fun i => some (i * sz, sz)) ((Array.range (1 * sz)).map (zc.toArray[· % zc.toArray.size]!)) ((#[(0, x)] : Array (Nat × Operand)).map fun (i, x) => (i, a.eval x)).toList = some ([y].flatMap enc).toArray := by simpa [hx] using h1
  obtain ⟨i, z, hi, hz, hsize, hby, hzs⟩ := hE.info.hi
  have hzc : z.cells = zc.toArray := by
    have h := hZ.zero
    rw [hi] at h
    simp only [Option.bind_some, hz, Option.map_some, Option.some.injEq] at h
    rw [← h]
  have hr : (Instr.buildSlice t 1 ((#[(0, x)] : Array (Nat × Operand)).map fun (i, x) => (i, a.eval x))).run P w = .ok (.slice (some ⟨w.heap.size, 0, none⟩) 1 1) (w.alloc (.cells ([y].flatMap enc).toArray e)) := by
    rw [← hzc] at hf
    have := hE.info.hsz
    exact run_buildSlice w t e 1 _ _ i z hE.info.ht hi hz (by rw [hsize]; omega) (by rw [hsize]; omega) (by rw [hsize]; exact hf)
  unfold Oper.wp execOp
  simp only [ho, Sem.run_bind, Sem.run_pure, Result.andThen_ok, hr]
  refine h _ _ (H.add_sl ?_ ((Below.refl _ _).alloc (Nat.le_refl _) _))
  exact own_new w ([y].flatMap enc).toArray 1 [y] (Nat.le_refl _) (by simp) (by simp [hE.info.henc]) rfl (by simp [maxLen])
end
set_option maxRecDepth 100000 in
set_option maxHeartbeats 4000000 in
theorem l15Guest_H (s : Sl Int) (b : Nat) {W0 w : World} {L L1 : List En} (H : Hp W0 w L) (t : Take L (.cu b s) L1) (R : Rd u8cell 1 W0 s ∧ s.xs.length ≤ 1048576) : Calls Tryz.prog 165 #[.pointer (some ⟨b, 0, none⟩)] w fun e w' => ∃ x : GV, e = .returned x.val ∧ (x.prog.xs.length ≤ 12 ∧ x.written.xs.length ≤ 4 ∧ x.live.xs.length ≤ 4 ∧ x.seen.xs.length ≤ 3) ∧ Hp W0 w' (.gst x :: .cu b s :: L1) := by
  replace H := (H.take t).seal
  clear t
  go_enter Tryz.func165, Tryz.ntmps165
  go_wp2_with (first
    | go_skip
    | ((with_reducible refine at_box ?_); first | (refine wpList_box_H rfl rfl H rfl (by constructor) ?_; clear H; intro b w H))
    | ((with_reducible refine at_alloc ?_); first | (refine wpList_alloc_H rfl rfl H ?_; clear H; intro bR w H))
    | ((with_reducible refine at_load ?_); first | (refine wpList_load_H rfl rfl H rfl (by repeat constructor) ?_) | (refine wpList_loads_H rfl rfl H rfl (by repeat constructor) ?_))
    | ((with_reducible refine at_store ?_); first | (refine wpList_store_H rfl rfl H rfl rfl (by repeat constructor) ?_; clear H; intro w H)))
  go_at_call 143
  refine (l10Prog_H s b H (by repeat constructor) R).mono ?_
  clear H
  rintro e w ⟨p, rfl, p0, p1, H⟩
  go_wp2_with (first
    | go_skip
    | ((with_reducible refine at_box ?_); first | (refine wpList_box_H rfl rfl H rfl (by constructor) ?_; clear H; intro b w H))
    | ((with_reducible refine at_alloc ?_); first | (refine wpList_alloc_H rfl rfl H ?_; clear H; intro bG w H))
    | ((with_reducible refine at_load ?_); first | (refine wpList_load_H rfl rfl H rfl (by repeat constructor) ?_) | (refine wpList_loads_H rfl rfl H rfl (by repeat constructor) ?_))
    | ((with_reducible refine at_store ?_); first | (refine wpList_store_H rfl rfl H rfl rfl (by repeat constructor) ?_; clear H; intro w H)))
  go_at_call 111
  refine (specGuestNew_c p _ (H.rd (s := p) (by repeat constructor) ins_len) (by omega)).mono ?_
  rintro e w ⟨d, rfl, hm, K⟩
  have hdp := Lib.hid (congrArg (fun m => m.prog.length) hm)
  have hds := Lib.hid (congrArg (fun m => m.seen.length) hm)
  replace hdp : Hid (d.prog.xs.length = p.xs.length) := hdp
  replace hds : Hid (d.seen.xs.length = 0) := hds
  clear hm
  replace H := (H.add_all K).slices
  clear K
  go_wp2_with (first
    | go_skip
    | ((with_reducible refine at_box ?_); first | (refine wpList_box_H rfl rfl H rfl (by constructor) ?_; clear H; intro bR w H))
    | ((with_reducible refine at_alloc ?_); first | (refine wpList_alloc_H rfl rfl H ?_; clear H; intro bG w H))
    | ((with_reducible refine at_load ?_); first | (refine wpList_load_H rfl rfl H rfl (by repeat constructor) ?_) | (refine wpList_loads_H rfl rfl H rfl (by repeat constructor) ?_))
    | ((with_reducible refine at_store ?_); first | (refine wpList_store_H rfl rfl H rfl rfl (by repeat constructor) ?_; clear H; intro w H)))
  go_at_call 215
  refine (l03Table_H s b H (by repeat constructor) R).mono ?_
  clear H
  rintro e w ⟨r, rfl, r0, H⟩
  have r1 := Lib.hid r0; clear r0
  go_wp2_with (first
    | go_skip
    | ((with_reducible refine at_box ?_); first | (refine wpList_box_H rfl rfl H rfl (by constructor) ?_; clear H; intro bR w H))
    | ((with_reducible refine at_alloc ?_); first | (refine wpList_alloc_H rfl rfl H ?_; clear H; intro bG w H))
    | ((with_reducible refine at_load ?_); first | (refine wpList_load_H rfl rfl H rfl (by repeat constructor) ?_) | (refine wpList_loads_H rfl rfl H rfl (by repeat constructor) ?_))
    | ((with_reducible refine at_store ?_); first | (refine wpList_store_H rfl rfl H rfl rfl (by repeat constructor) ?_; clear H; intro w H)))
  go_at_call 215
  refine (l03Table_H s b H (by repeat constructor) R).mono ?_
  clear H
  rintro e w ⟨l, rfl, l0, H⟩
  have l1 := Lib.hid l0; clear l0
  go_wp2_with (first
    | go_skip
    | ((with_reducible refine at_box ?_); first | (refine wpList_box_H rfl rfl H rfl (by constructor) ?_; clear H; intro bR w H))
    | ((with_reducible refine at_alloc ?_); first | (refine wpList_alloc_H rfl rfl H ?_; clear H; intro bG w H))
    | ((with_reducible refine at_load ?_); first | (refine wpList_load_H rfl rfl H rfl (by repeat constructor) ?_) | (refine wpList_loads_H rfl rfl H rfl (by repeat constructor) ?_))
    | ((with_reducible refine at_store ?_); first | (refine wpList_store_H rfl rfl H rfl rfl (by repeat constructor) ?_; clear H; intro w H)))
  go_at_call 94
  refine (l01Below_H s b _ (by decide) (by decide) H (by repeat constructor) R).mono ?_
  clear H
  rintro e w ⟨a, rfl, a0, a1, H⟩
  clear a0 a1
  go_wp2_with (first
    | go_skip
    | ((with_reducible refine at_box ?_); first | (refine wpList_box_H rfl rfl H rfl (by constructor) ?_; clear H; intro bR w H))
    | ((with_reducible refine at_alloc ?_); first | (refine wpList_alloc_H rfl rfl H ?_; clear H; intro bG w H))
    | ((with_reducible refine at_load ?_); first | (refine wpList_load_H rfl rfl H rfl (by repeat constructor) ?_) | (refine wpList_loads_H rfl rfl H rfl (by repeat constructor) ?_))
    | ((with_reducible refine at_store ?_); first | (refine wpList_store_H rfl rfl H rfl rfl (by repeat constructor) ?_; clear H; intro w H)))
  go_at_call 94
  refine (l01Below_H s b _ (by decide) (by decide) H (by repeat constructor) R).mono ?_
  clear H
  rintro e w ⟨pc, rfl, a0, a1, H⟩
  clear a0 a1
  go_wp2_with (first
    | go_skip
    | ((with_reducible refine at_box ?_); first | (refine wpList_box_H rfl rfl H rfl (by constructor) ?_; clear H; intro bR w H))
    | ((with_reducible refine at_alloc ?_); first | (refine wpList_alloc_H rfl rfl H ?_; clear H; intro bG w H))
    | ((with_reducible refine at_load ?_); first | (refine wpList_load_H rfl rfl H rfl (by repeat constructor) ?_) | (refine wpList_loads_H rfl rfl H rfl (by repeat constructor) ?_))
    | ((with_reducible refine at_store ?_); first | (refine wpList_store_H rfl rfl H rfl rfl (by repeat constructor) ?_; clear H; intro w H)))
  go_at_call 171
  refine (l11Ctl_H s b H (by repeat constructor) R).mono ?_
  clear H
  rintro e w ⟨c, rfl, H⟩
  go_wp2_with (first
    | go_skip
    | ((with_reducible refine at_box ?_); first | (refine wpList_box_H rfl rfl H rfl (by constructor) ?_; clear H; intro bR w H))
    | ((with_reducible refine at_alloc ?_); first | (refine wpList_alloc_H rfl rfl H ?_; clear H; intro bG w H))
    | ((with_reducible refine at_load ?_); first | (refine wpList_load_H rfl rfl H rfl (by repeat constructor) ?_) | (refine wpList_loads_H rfl rfl H rfl (by repeat constructor) ?_))
    | ((with_reducible refine at_store ?_); first | (refine wpList_store_H rfl rfl H rfl rfl (by repeat constructor) ?_; clear H; intro w H)))
  go_at_call 67
  refine (l01Once_H s b _ (by decide) (by decide) H (by repeat constructor) R).mono ?_
  clear H
  rintro e w ⟨q, rfl, H⟩
  cases q
  · skip
    go_wp2_with (first
      | go_skip
      | ((with_reducible refine at_box ?_); first | (refine wpList_box_H rfl rfl H rfl (by constructor) ?_; clear H; intro bR w H))
      | ((with_reducible refine at_alloc ?_); first | (refine wpList_alloc_H rfl rfl H ?_; clear H; intro bG w H))
      | ((with_reducible refine at_load ?_); first | (refine wpList_load_H rfl rfl H rfl (by repeat constructor) ?_) | (refine wpList_loads_H rfl rfl H rfl (by repeat constructor) ?_))
      | ((with_reducible refine at_store ?_); first | (refine wpList_store_H rfl rfl H rfl rfl (by repeat constructor) ?_; clear H; intro w H)))
    go_at_call 67
    refine (l01Once_H s b _ (by decide) (by decide) H (by repeat constructor) R).mono ?_
    clear H
    rintro e w ⟨q, rfl, H⟩
    cases q
    · skip
      go_wp2_with (first
        | go_skip
        | ((with_reducible refine at_box ?_); first | (refine wpList_box_H rfl rfl H rfl (by constructor) ?_; clear H; intro bR w H))
        | ((with_reducible refine at_alloc ?_); first | (refine wpList_alloc_H rfl rfl H ?_; clear H; intro bG w H))
        | ((with_reducible refine at_load ?_); first | (refine wpList_load_H rfl rfl H rfl (by repeat constructor) ?_) | (refine wpList_loads_H rfl rfl H rfl (by repeat constructor) ?_))
        | ((with_reducible refine at_store ?_); first | (refine wpList_store_H rfl rfl H rfl rfl (by repeat constructor) ?_; clear H; intro w H)))
      go_at_call 67
      refine (l01Once_H s b _ (by decide) (by decide) H (by repeat constructor) R).mono ?_
      clear H
      rintro e w ⟨hd, rfl, H⟩
      go_wp2_with (first
        | go_skip
        | ((with_reducible refine at_box ?_); first | (refine wpList_box_H rfl rfl H rfl (by constructor) ?_; clear H; intro b w H))
        | ((with_reducible refine at_alloc ?_); first | (refine wpList_alloc_H rfl rfl H ?_; clear H; intro bG w H))
        | ((with_reducible refine at_load ?_); first | (refine wpList_load_H rfl rfl H rfl (by repeat constructor) ?_) | (refine wpList_loads_H rfl rfl H rfl (by repeat constructor) ?_))
        | ((with_reducible refine at_store ?_); first | (refine wpList_store_H rfl rfl H rfl rfl (by repeat constructor) ?_; clear H; intro w H)))
      go_loopw [4] (fun i wr => ∃ (k : Nat) (g : GV), k ≤ 3 ∧ i = .int .i64 k ∧ Hid (g.prog.xs.length ≤ 12 ∧ g.written.xs.length = 4 ∧ g.live.xs.length = 4) ∧ g.seen.xs.length = k ∧ Hp W0 wr [.box bG 53 (garr g).toList, .ins g.prog, .slot g.written, .slot g.live, .int g.seen, .cu b s, .box bR 53 (garr gzero).toList, .all L1]) (fun i _ => 3 - (intOf i).toNat)
      case atStart => exact ⟨0, (⟨d.prog, a, pc, r, l, c, d.pending, d.exit, hd, d.seen⟩ : GV), by omega, rfl, Lib.hid ⟨by rw [hdp.out]; exact p1, r1.out, l1.out⟩, hds.out, H.pick (.cons (by repeat constructor) (.cons (by repeat constructor) (.cons (by repeat constructor) (.cons (by repeat constructor) (.cons (by repeat constructor) (.cons (by repeat constructor) (.cons (by repeat constructor) (.cons (by repeat constructor) .nil))))))))⟩
      case round =>
        clear H
        obtain ⟨k, g, hk0, rfl, HS, hl, H⟩ := hrel
        have hz : g.seen.xs.length ≤ 3 := by omega
        have HL := Lib.hid hl; clear hl
        go_wp2_with (first
          | go_skip
          | ((with_reducible refine at_box ?_); first | (refine wpList_box_H rfl rfl H rfl (by constructor) ?_; clear H; intro b w H))
          | ((with_reducible refine at_alloc ?_); first | (refine wpList_alloc_H rfl rfl H ?_; clear H; intro b w H))
          | ((with_reducible refine at_load ?_); first | (refine wpList_load_H rfl rfl H rfl (by repeat constructor) ?_) | (refine wpList_loads_H rfl rfl H rfl (by repeat constructor) ?_))
          | ((with_reducible refine at_store ?_); first | (refine wpList_store_H rfl rfl H rfl rfl (by repeat constructor) ?_; clear H; intro w H))
          | (go_at_call 94; refine (l01Below_H s b _ (by decide) (by decide) H (by repeat constructor) R).mono ?_; clear H; rintro e w ⟨v, rfl, va, vb, H⟩))
        all_goals first
          | (refine bodyPost_ret (results_H rfl H rfl (by repeat constructor)) rfl ⟨g, rfl, ⟨HS.out.1, by have := HS.out.2.1; omega, by have := HS.out.2.2; omega, hz⟩, ?_⟩; exact (Hp.guest (H.pick (.cons (by repeat constructor) (.cons (by repeat constructor) (.cons (by repeat constructor) (.cons (by repeat constructor) (.cons (by repeat constructor) (.cons (by repeat constructor) .nil))))))) _ _ _ _ _ _).uns2)
          | skip
        refine wp_cut (fun u a' w' => ∃ (v : Int) (b1 : Nat) (p2 : Sl Int), Hid (p2.xs.length = g.seen.xs.length + 1) ∧ Hp W0 w' [.box bG 53 (garr (⟨g.prog, g.a, g.pc, g.written, g.live, g.ctl, g.pending, g.exit, g.halted, p2⟩ : GV)).toList, .ins (⟨g.prog, g.a, g.pc, g.written, g.live, g.ctl, g.pending, g.exit, g.halted, p2⟩ : GV).prog, .slot (⟨g.prog, g.a, g.pc, g.written, g.live, g.ctl, g.pending, g.exit, g.halted, p2⟩ : GV).written, .slot (⟨g.prog, g.a, g.pc, g.written, g.live, g.ctl, g.pending, g.exit, g.halted, p2⟩ : GV).live, .int (⟨g.prog, g.a, g.pc, g.written, g.live, g.ctl, g.pending, g.exit, g.halted, p2⟩ : GV).seen, .cu b s, .box bR 53 (garr gzero).toList, .all L1] ∧ a' = puts u [(42, .pointer (some ⟨bG, 14, none⟩)), (43, (.slice g.seen.A g.seen.xs.length g.seen.c)), (44, (.pointer (some ⟨b, 0, none⟩))), (45, (.int .i64 v)), (46, (.slice (some ⟨b1, 0, none⟩) 1 1)), (47, (.slice p2.A p2.xs.length p2.c)), (48, .pointer (some ⟨bG, 14, none⟩))]) ?_ ?_
        · refine wp_region_last 7 (S := (fun w' => Rw w' bG 53 (garr g))) (by kernel_rfl) ?_
          replace H := H.drew
          refine tkL (i := 0) rfl .here (yields_val (v := .pointer (some ⟨bG, 14, none⟩)) rfl (fun _ => by go_simp)) (H.rw_ (by repeat constructor)) ?_
          (try go_frame)
          refine tkL (i := 1) rfl (.of rfl) (yields_load1_R rfl rfl rfl (fun _ hS => hS) rfl) (H.rw_ (by repeat constructor)) ?_
          (try go_frame)
          refine tkL (i := 2) rfl (.of rfl) (yields_val (v := (.pointer (some ⟨b, 0, none⟩))) rfl (fun _ => by go_simp)) (H.rw_ (by repeat constructor)) ?_
          (try go_frame)
          refine anyL_1 (i := 3) (by kernel_rfl) ?_
          refine wpOp_at rfl (.of rfl) rfl ?_
          refine wp_call_H Tryz.f94 rfl rfl Tryz.func94 (by kernel_rfl) rfl rfl (calls_ex (val := fun v : Int => .int .i64 v) (l01Below_H s b 100 (by decide) (by decide) H (by repeat constructor) R)) ?_
          clear H
          rintro _ w ⟨v, rfl, va, vb, H⟩
          clear va vb
          refine ⟨fun _ => (H.rw_ (by repeat constructor)), ?_⟩
          (try go_frame)
          refine anyL_1 (i := 4) (by kernel_rfl) ?_
          refine wpOp_at rfl (.of rfl) rfl ?_
          refine wp_oneD_H rfl H v rfl CellsOf.int rfl (by decide) ?_
          clear H
          intro b1 w H
          refine ⟨fun _ => (H.rw_ (by repeat constructor)), ?_⟩
          (try go_frame)
          refine anyL_1 (i := 5) (by kernel_rfl) ?_
          refine wpOp_at rfl (.of rfl) rfl ?_
          refine wp_append_H rfl H g.seen (⟨some ⟨b1, 0, none⟩, 1, [v]⟩ : Sl Int) rfl rfl (by repeat constructor) (H.rd (s := (⟨some ⟨b1, 0, none⟩, 1, [v]⟩ : Sl Int)) (by repeat constructor) int_len) (by simp only [List.length_cons, List.length_nil]; omega) (by decide) ?_
          clear H
          intro p2 w h2 H
          refine ⟨fun _ => (H.rw_ (by repeat constructor)), ?_⟩
          (try go_frame)
          refine tkL (i := 6) rfl (.of rfl) (yields_val (v := .pointer (some ⟨bG, 14, none⟩)) rfl (fun _ => by go_simp)) (H.rw_ (by repeat constructor)) ?_
          (try go_frame)
          refine anyL_1 (i := 7) (by kernel_rfl) ?_
          refine wpOp_at rfl (.of rfl) rfl ?_
          refine wp_store_H rfl H rfl rfl (by repeat constructor) ?_
          clear H
          intro w H
          refine ⟨fun hw => absurd rfl hw, ?_⟩
          (try go_frame)
          refine anyL_done (by kernel_rfl) ?_ _
          exact ⟨rfl, v, b1, p2, Lib.hid (by rw [h2.out]; simp), H.pick (.cons (by repeat constructor) (.cons (by repeat constructor) (.cons (by repeat constructor) (.cons (by repeat constructor) (.cons (by repeat constructor) (.cons (by repeat constructor) (.cons (by repeat constructor) (.cons (by repeat constructor) .nil)))))))), by first | (simp only [puts_cons, puts_nil, Act.put, List.setIfInBounds_toArray, List.set_cons_succ, List.set_cons_zero]; done) | (simp only [puts_cons, puts_nil, Act.put, List.setIfInBounds_toArray, List.set_cons_succ, List.set_cons_zero]; rfl)⟩
        clear H
        rintro u w ⟨v, b1, p2, HP, H, rfl⟩
        simp only [puts_cons, puts_nil, Act.put, List.setIfInBounds_toArray, List.set_cons_succ, List.set_cons_zero]
        go_wp2_with (first
          | go_skip
          | ((with_reducible refine at_box ?_); first | (refine wpList_box_H rfl rfl H rfl (by constructor) ?_; clear H; intro b w H))
          | ((with_reducible refine at_alloc ?_); first | (refine wpList_alloc_H rfl rfl H ?_; clear H; intro b w H))
          | ((with_reducible refine at_load ?_); first | (refine wpList_load_H rfl rfl H rfl (by repeat constructor) ?_) | (refine wpList_loads_H rfl rfl H rfl (by repeat constructor) ?_))
          | ((with_reducible refine at_store ?_); first | (refine wpList_store_H rfl rfl H rfl rfl (by repeat constructor) ?_; clear H; intro w H)))
        go_roundw
        case rel => exact ⟨k + 1, (⟨g.prog, g.a, g.pc, g.written, g.live, g.ctl, g.pending, g.exit, g.halted, p2⟩ : GV), by omega, by go_num, HS, by show p2.xs.length = k + 1; rw [HP.out, HL.out], H.pick (.cons (by repeat constructor) (.cons (by repeat constructor) (.cons (by repeat constructor) (.cons (by repeat constructor) (.cons (by repeat constructor) (.cons (by repeat constructor) (.cons (by repeat constructor) (.cons (by repeat constructor) .nil))))))))⟩
        case measure => simp [intOf]; omega
    · skip
      go_wp2_with (first
        | go_skip
        | ((with_reducible refine at_box ?_); first | (refine wpList_box_H rfl rfl H rfl (by constructor) ?_; clear H; intro bR w H))
        | ((with_reducible refine at_alloc ?_); first | (refine wpList_alloc_H rfl rfl H ?_; clear H; intro bG w H))
        | ((with_reducible refine at_load ?_); first | (refine wpList_load_H rfl rfl H rfl (by repeat constructor) ?_) | (refine wpList_loads_H rfl rfl H rfl (by repeat constructor) ?_))
        | ((with_reducible refine at_store ?_); first | (refine wpList_store_H rfl rfl H rfl rfl (by repeat constructor) ?_; clear H; intro w H)))
      go_at_call 68
      refine (l13Exit_H s b H (by repeat constructor) R).mono ?_
      clear H
      rintro e w ⟨x, rfl, H⟩
      go_wp2_with (first
        | go_skip
        | ((with_reducible refine at_box ?_); first | (refine wpList_box_H rfl rfl H rfl (by constructor) ?_; clear H; intro bR w H))
        | ((with_reducible refine at_alloc ?_); first | (refine wpList_alloc_H rfl rfl H ?_; clear H; intro bG w H))
        | ((with_reducible refine at_load ?_); first | (refine wpList_load_H rfl rfl H rfl (by repeat constructor) ?_) | (refine wpList_loads_H rfl rfl H rfl (by repeat constructor) ?_))
        | ((with_reducible refine at_store ?_); first | (refine wpList_store_H rfl rfl H rfl rfl (by repeat constructor) ?_; clear H; intro w H)))
      go_at_call 67
      refine (l01Once_H s b _ (by decide) (by decide) H (by repeat constructor) R).mono ?_
      clear H
      rintro e w ⟨hd, rfl, H⟩
      go_wp2_with (first
        | go_skip
        | ((with_reducible refine at_box ?_); first | (refine wpList_box_H rfl rfl H rfl (by constructor) ?_; clear H; intro b w H))
        | ((with_reducible refine at_alloc ?_); first | (refine wpList_alloc_H rfl rfl H ?_; clear H; intro bG w H))
        | ((with_reducible refine at_load ?_); first | (refine wpList_load_H rfl rfl H rfl (by repeat constructor) ?_) | (refine wpList_loads_H rfl rfl H rfl (by repeat constructor) ?_))
        | ((with_reducible refine at_store ?_); first | (refine wpList_store_H rfl rfl H rfl rfl (by repeat constructor) ?_; clear H; intro w H)))
      go_loopw [4] (fun i wr => ∃ (k : Nat) (g : GV), k ≤ 3 ∧ i = .int .i64 k ∧ Hid (g.prog.xs.length ≤ 12 ∧ g.written.xs.length = 4 ∧ g.live.xs.length = 4) ∧ g.seen.xs.length = k ∧ Hp W0 wr [.box bG 53 (garr g).toList, .ins g.prog, .slot g.written, .slot g.live, .int g.seen, .cu b s, .box bR 53 (garr gzero).toList, .all L1]) (fun i _ => 3 - (intOf i).toNat)
      case atStart => exact ⟨0, (⟨d.prog, a, pc, r, l, c, d.pending, x, hd, d.seen⟩ : GV), by omega, rfl, Lib.hid ⟨by rw [hdp.out]; exact p1, r1.out, l1.out⟩, hds.out, H.pick (.cons (by repeat constructor) (.cons (by repeat constructor) (.cons (by repeat constructor) (.cons (by repeat constructor) (.cons (by repeat constructor) (.cons (by repeat constructor) (.cons (by repeat constructor) (.cons (by repeat constructor) .nil))))))))⟩
      case round =>
        clear H
        obtain ⟨k, g, hk0, rfl, HS, hl, H⟩ := hrel
        have hz : g.seen.xs.length ≤ 3 := by omega
        have HL := Lib.hid hl; clear hl
        go_wp2_with (first
          | go_skip
          | ((with_reducible refine at_box ?_); first | (refine wpList_box_H rfl rfl H rfl (by constructor) ?_; clear H; intro b w H))
          | ((with_reducible refine at_alloc ?_); first | (refine wpList_alloc_H rfl rfl H ?_; clear H; intro b w H))
          | ((with_reducible refine at_load ?_); first | (refine wpList_load_H rfl rfl H rfl (by repeat constructor) ?_) | (refine wpList_loads_H rfl rfl H rfl (by repeat constructor) ?_))
          | ((with_reducible refine at_store ?_); first | (refine wpList_store_H rfl rfl H rfl rfl (by repeat constructor) ?_; clear H; intro w H))
          | (go_at_call 94; refine (l01Below_H s b _ (by decide) (by decide) H (by repeat constructor) R).mono ?_; clear H; rintro e w ⟨v, rfl, va, vb, H⟩))
        all_goals first
          | (refine bodyPost_ret (results_H rfl H rfl (by repeat constructor)) rfl ⟨g, rfl, ⟨HS.out.1, by have := HS.out.2.1; omega, by have := HS.out.2.2; omega, hz⟩, ?_⟩; exact (Hp.guest (H.pick (.cons (by repeat constructor) (.cons (by repeat constructor) (.cons (by repeat constructor) (.cons (by repeat constructor) (.cons (by repeat constructor) (.cons (by repeat constructor) .nil))))))) _ _ _ _ _ _).uns2)
          | skip
        refine wp_cut (fun u a' w' => ∃ (v : Int) (b1 : Nat) (p2 : Sl Int), Hid (p2.xs.length = g.seen.xs.length + 1) ∧ Hp W0 w' [.box bG 53 (garr (⟨g.prog, g.a, g.pc, g.written, g.live, g.ctl, g.pending, g.exit, g.halted, p2⟩ : GV)).toList, .ins (⟨g.prog, g.a, g.pc, g.written, g.live, g.ctl, g.pending, g.exit, g.halted, p2⟩ : GV).prog, .slot (⟨g.prog, g.a, g.pc, g.written, g.live, g.ctl, g.pending, g.exit, g.halted, p2⟩ : GV).written, .slot (⟨g.prog, g.a, g.pc, g.written, g.live, g.ctl, g.pending, g.exit, g.halted, p2⟩ : GV).live, .int (⟨g.prog, g.a, g.pc, g.written, g.live, g.ctl, g.pending, g.exit, g.halted, p2⟩ : GV).seen, .cu b s, .box bR 53 (garr gzero).toList, .all L1] ∧ a' = puts u [(42, .pointer (some ⟨bG, 14, none⟩)), (43, (.slice g.seen.A g.seen.xs.length g.seen.c)), (44, (.pointer (some ⟨b, 0, none⟩))), (45, (.int .i64 v)), (46, (.slice (some ⟨b1, 0, none⟩) 1 1)), (47, (.slice p2.A p2.xs.length p2.c)), (48, .pointer (some ⟨bG, 14, none⟩))]) ?_ ?_
        · refine wp_region_last 7 (S := (fun w' => Rw w' bG 53 (garr g))) (by kernel_rfl) ?_
          replace H := H.drew
          refine tkL (i := 0) rfl .here (yields_val (v := .pointer (some ⟨bG, 14, none⟩)) rfl (fun _ => by go_simp)) (H.rw_ (by repeat constructor)) ?_
          (try go_frame)
          refine tkL (i := 1) rfl (.of rfl) (yields_load1_R rfl rfl rfl (fun _ hS => hS) rfl) (H.rw_ (by repeat constructor)) ?_
          (try go_frame)
          refine tkL (i := 2) rfl (.of rfl) (yields_val (v := (.pointer (some ⟨b, 0, none⟩))) rfl (fun _ => by go_simp)) (H.rw_ (by repeat constructor)) ?_
          (try go_frame)
          refine anyL_1 (i := 3) (by kernel_rfl) ?_
          refine wpOp_at rfl (.of rfl) rfl ?_
          refine wp_call_H Tryz.f94 rfl rfl Tryz.func94 (by kernel_rfl) rfl rfl (calls_ex (val := fun v : Int => .int .i64 v) (l01Below_H s b 100 (by decide) (by decide) H (by repeat constructor) R)) ?_
          clear H
          rintro _ w ⟨v, rfl, va, vb, H⟩
          clear va vb
          refine ⟨fun _ => (H.rw_ (by repeat constructor)), ?_⟩
          (try go_frame)
          refine anyL_1 (i := 4) (by kernel_rfl) ?_
          refine wpOp_at rfl (.of rfl) rfl ?_
          refine wp_oneD_H rfl H v rfl CellsOf.int rfl (by decide) ?_
          clear H
          intro b1 w H
          refine ⟨fun _ => (H.rw_ (by repeat constructor)), ?_⟩
          (try go_frame)
          refine anyL_1 (i := 5) (by kernel_rfl) ?_
          refine wpOp_at rfl (.of rfl) rfl ?_
          refine wp_append_H rfl H g.seen (⟨some ⟨b1, 0, none⟩, 1, [v]⟩ : Sl Int) rfl rfl (by repeat constructor) (H.rd (s := (⟨some ⟨b1, 0, none⟩, 1, [v]⟩ : Sl Int)) (by repeat constructor) int_len) (by simp only [List.length_cons, List.length_nil]; omega) (by decide) ?_
          clear H
          intro p2 w h2 H
          refine ⟨fun _ => (H.rw_ (by repeat constructor)), ?_⟩
          (try go_frame)
          refine tkL (i := 6) rfl (.of rfl) (yields_val (v := .pointer (some ⟨bG, 14, none⟩)) rfl (fun _ => by go_simp)) (H.rw_ (by repeat constructor)) ?_
          (try go_frame)
          refine anyL_1 (i := 7) (by kernel_rfl) ?_
          refine wpOp_at rfl (.of rfl) rfl ?_
          refine wp_store_H rfl H rfl rfl (by repeat constructor) ?_
          clear H
          intro w H
          refine ⟨fun hw => absurd rfl hw, ?_⟩
          (try go_frame)
          refine anyL_done (by kernel_rfl) ?_ _
          exact ⟨rfl, v, b1, p2, Lib.hid (by rw [h2.out]; simp), H.pick (.cons (by repeat constructor) (.cons (by repeat constructor) (.cons (by repeat constructor) (.cons (by repeat constructor) (.cons (by repeat constructor) (.cons (by repeat constructor) (.cons (by repeat constructor) (.cons (by repeat constructor) .nil)))))))), by first | (simp only [puts_cons, puts_nil, Act.put, List.setIfInBounds_toArray, List.set_cons_succ, List.set_cons_zero]; done) | (simp only [puts_cons, puts_nil, Act.put, List.setIfInBounds_toArray, List.set_cons_succ, List.set_cons_zero]; rfl)⟩
        clear H
        rintro u w ⟨v, b1, p2, HP, H, rfl⟩
        simp only [puts_cons, puts_nil, Act.put, List.setIfInBounds_toArray, List.set_cons_succ, List.set_cons_zero]
        go_wp2_with (first
          | go_skip
          | ((with_reducible refine at_box ?_); first | (refine wpList_box_H rfl rfl H rfl (by constructor) ?_; clear H; intro b w H))
          | ((with_reducible refine at_alloc ?_); first | (refine wpList_alloc_H rfl rfl H ?_; clear H; intro b w H))
          | ((with_reducible refine at_load ?_); first | (refine wpList_load_H rfl rfl H rfl (by repeat constructor) ?_) | (refine wpList_loads_H rfl rfl H rfl (by repeat constructor) ?_))
          | ((with_reducible refine at_store ?_); first | (refine wpList_store_H rfl rfl H rfl rfl (by repeat constructor) ?_; clear H; intro w H)))
        go_roundw
        case rel => exact ⟨k + 1, (⟨g.prog, g.a, g.pc, g.written, g.live, g.ctl, g.pending, g.exit, g.halted, p2⟩ : GV), by omega, by go_num, HS, by show p2.xs.length = k + 1; rw [HP.out, HL.out], H.pick (.cons (by repeat constructor) (.cons (by repeat constructor) (.cons (by repeat constructor) (.cons (by repeat constructor) (.cons (by repeat constructor) (.cons (by repeat constructor) (.cons (by repeat constructor) (.cons (by repeat constructor) .nil))))))))⟩
        case measure => simp [intOf]; omega
  · skip
    go_wp2_with (first
      | go_skip
      | ((with_reducible refine at_box ?_); first | (refine wpList_box_H rfl rfl H rfl (by constructor) ?_; clear H; intro bR w H))
      | ((with_reducible refine at_alloc ?_); first | (refine wpList_alloc_H rfl rfl H ?_; clear H; intro bG w H))
      | ((with_reducible refine at_load ?_); first | (refine wpList_load_H rfl rfl H rfl (by repeat constructor) ?_) | (refine wpList_loads_H rfl rfl H rfl (by repeat constructor) ?_))
      | ((with_reducible refine at_store ?_); first | (refine wpList_store_H rfl rfl H rfl rfl (by repeat constructor) ?_; clear H; intro w H)))
    go_at_call 94
    refine (l01Below_H s b _ (by decide) (by decide) H (by repeat constructor) R).mono ?_
    clear H
    rintro e w ⟨n, rfl, a0, a1, H⟩
    clear a0 a1
    go_wp2_with (first
      | go_skip
      | ((with_reducible refine at_box ?_); first | (refine wpList_box_H rfl rfl H rfl (by constructor) ?_; clear H; intro bR w H))
      | ((with_reducible refine at_alloc ?_); first | (refine wpList_alloc_H rfl rfl H ?_; clear H; intro bG w H))
      | ((with_reducible refine at_load ?_); first | (refine wpList_load_H rfl rfl H rfl (by repeat constructor) ?_) | (refine wpList_loads_H rfl rfl H rfl (by repeat constructor) ?_))
      | ((with_reducible refine at_store ?_); first | (refine wpList_store_H rfl rfl H rfl rfl (by repeat constructor) ?_; clear H; intro w H)))
    go_at_call 67
    refine (l01Once_H s b _ (by decide) (by decide) H (by repeat constructor) R).mono ?_
    clear H
    rintro e w ⟨q, rfl, H⟩
    cases q
    · skip
      go_wp2_with (first
        | go_skip
        | ((with_reducible refine at_box ?_); first | (refine wpList_box_H rfl rfl H rfl (by constructor) ?_; clear H; intro bR w H))
        | ((with_reducible refine at_alloc ?_); first | (refine wpList_alloc_H rfl rfl H ?_; clear H; intro bG w H))
        | ((with_reducible refine at_load ?_); first | (refine wpList_load_H rfl rfl H rfl (by repeat constructor) ?_) | (refine wpList_loads_H rfl rfl H rfl (by repeat constructor) ?_))
        | ((with_reducible refine at_store ?_); first | (refine wpList_store_H rfl rfl H rfl rfl (by repeat constructor) ?_; clear H; intro w H)))
      go_at_call 67
      refine (l01Once_H s b _ (by decide) (by decide) H (by repeat constructor) R).mono ?_
      clear H
      rintro e w ⟨hd, rfl, H⟩
      go_wp2_with (first
        | go_skip
        | ((with_reducible refine at_box ?_); first | (refine wpList_box_H rfl rfl H rfl (by constructor) ?_; clear H; intro b w H))
        | ((with_reducible refine at_alloc ?_); first | (refine wpList_alloc_H rfl rfl H ?_; clear H; intro bG w H))
        | ((with_reducible refine at_load ?_); first | (refine wpList_load_H rfl rfl H rfl (by repeat constructor) ?_) | (refine wpList_loads_H rfl rfl H rfl (by repeat constructor) ?_))
        | ((with_reducible refine at_store ?_); first | (refine wpList_store_H rfl rfl H rfl rfl (by repeat constructor) ?_; clear H; intro w H)))
      go_loopw [4] (fun i wr => ∃ (k : Nat) (g : GV), k ≤ 3 ∧ i = .int .i64 k ∧ Hid (g.prog.xs.length ≤ 12 ∧ g.written.xs.length = 4 ∧ g.live.xs.length = 4) ∧ g.seen.xs.length = k ∧ Hp W0 wr [.box bG 53 (garr g).toList, .ins g.prog, .slot g.written, .slot g.live, .int g.seen, .cu b s, .box bR 53 (garr gzero).toList, .all L1]) (fun i _ => 3 - (intOf i).toNat)
      case atStart => exact ⟨0, (⟨d.prog, a, pc, r, l, c, n, d.exit, hd, d.seen⟩ : GV), by omega, rfl, Lib.hid ⟨by rw [hdp.out]; exact p1, r1.out, l1.out⟩, hds.out, H.pick (.cons (by repeat constructor) (.cons (by repeat constructor) (.cons (by repeat constructor) (.cons (by repeat constructor) (.cons (by repeat constructor) (.cons (by repeat constructor) (.cons (by repeat constructor) (.cons (by repeat constructor) .nil))))))))⟩
      case round =>
        clear H
        obtain ⟨k, g, hk0, rfl, HS, hl, H⟩ := hrel
        have hz : g.seen.xs.length ≤ 3 := by omega
        have HL := Lib.hid hl; clear hl
        go_wp2_with (first
          | go_skip
          | ((with_reducible refine at_box ?_); first | (refine wpList_box_H rfl rfl H rfl (by constructor) ?_; clear H; intro b w H))
          | ((with_reducible refine at_alloc ?_); first | (refine wpList_alloc_H rfl rfl H ?_; clear H; intro b w H))
          | ((with_reducible refine at_load ?_); first | (refine wpList_load_H rfl rfl H rfl (by repeat constructor) ?_) | (refine wpList_loads_H rfl rfl H rfl (by repeat constructor) ?_))
          | ((with_reducible refine at_store ?_); first | (refine wpList_store_H rfl rfl H rfl rfl (by repeat constructor) ?_; clear H; intro w H))
          | (go_at_call 94; refine (l01Below_H s b _ (by decide) (by decide) H (by repeat constructor) R).mono ?_; clear H; rintro e w ⟨v, rfl, va, vb, H⟩))
        all_goals first
          | (refine bodyPost_ret (results_H rfl H rfl (by repeat constructor)) rfl ⟨g, rfl, ⟨HS.out.1, by have := HS.out.2.1; omega, by have := HS.out.2.2; omega, hz⟩, ?_⟩; exact (Hp.guest (H.pick (.cons (by repeat constructor) (.cons (by repeat constructor) (.cons (by repeat constructor) (.cons (by repeat constructor) (.cons (by repeat constructor) (.cons (by repeat constructor) .nil))))))) _ _ _ _ _ _).uns2)
          | skip
        refine wp_cut (fun u a' w' => ∃ (v : Int) (b1 : Nat) (p2 : Sl Int), Hid (p2.xs.length = g.seen.xs.length + 1) ∧ Hp W0 w' [.box bG 53 (garr (⟨g.prog, g.a, g.pc, g.written, g.live, g.ctl, g.pending, g.exit, g.halted, p2⟩ : GV)).toList, .ins (⟨g.prog, g.a, g.pc, g.written, g.live, g.ctl, g.pending, g.exit, g.halted, p2⟩ : GV).prog, .slot (⟨g.prog, g.a, g.pc, g.written, g.live, g.ctl, g.pending, g.exit, g.halted, p2⟩ : GV).written, .slot (⟨g.prog, g.a, g.pc, g.written, g.live, g.ctl, g.pending, g.exit, g.halted, p2⟩ : GV).live, .int (⟨g.prog, g.a, g.pc, g.written, g.live, g.ctl, g.pending, g.exit, g.halted, p2⟩ : GV).seen, .cu b s, .box bR 53 (garr gzero).toList, .all L1] ∧ a' = puts u [(42, .pointer (some ⟨bG, 14, none⟩)), (43, (.slice g.seen.A g.seen.xs.length g.seen.c)), (44, (.pointer (some ⟨b, 0, none⟩))), (45, (.int .i64 v)), (46, (.slice (some ⟨b1, 0, none⟩) 1 1)), (47, (.slice p2.A p2.xs.length p2.c)), (48, .pointer (some ⟨bG, 14, none⟩))]) ?_ ?_
        · refine wp_region_last 7 (S := (fun w' => Rw w' bG 53 (garr g))) (by kernel_rfl) ?_
          replace H := H.drew
          refine tkL (i := 0) rfl .here (yields_val (v := .pointer (some ⟨bG, 14, none⟩)) rfl (fun _ => by go_simp)) (H.rw_ (by repeat constructor)) ?_
          (try go_frame)
          refine tkL (i := 1) rfl (.of rfl) (yields_load1_R rfl rfl rfl (fun _ hS => hS) rfl) (H.rw_ (by repeat constructor)) ?_
          (try go_frame)
          refine tkL (i := 2) rfl (.of rfl) (yields_val (v := (.pointer (some ⟨b, 0, none⟩))) rfl (fun _ => by go_simp)) (H.rw_ (by repeat constructor)) ?_
          (try go_frame)
          refine anyL_1 (i := 3) (by kernel_rfl) ?_
          refine wpOp_at rfl (.of rfl) rfl ?_
          refine wp_call_H Tryz.f94 rfl rfl Tryz.func94 (by kernel_rfl) rfl rfl (calls_ex (val := fun v : Int => .int .i64 v) (l01Below_H s b 100 (by decide) (by decide) H (by repeat constructor) R)) ?_
          clear H
          rintro _ w ⟨v, rfl, va, vb, H⟩
          clear va vb
          refine ⟨fun _ => (H.rw_ (by repeat constructor)), ?_⟩
          (try go_frame)
          refine anyL_1 (i := 4) (by kernel_rfl) ?_
          refine wpOp_at rfl (.of rfl) rfl ?_
          refine wp_oneD_H rfl H v rfl CellsOf.int rfl (by decide) ?_
          clear H
          intro b1 w H
          refine ⟨fun _ => (H.rw_ (by repeat constructor)), ?_⟩
          (try go_frame)
          refine anyL_1 (i := 5) (by kernel_rfl) ?_
          refine wpOp_at rfl (.of rfl) rfl ?_
          refine wp_append_H rfl H g.seen (⟨some ⟨b1, 0, none⟩, 1, [v]⟩ : Sl Int) rfl rfl (by repeat constructor) (H.rd (s := (⟨some ⟨b1, 0, none⟩, 1, [v]⟩ : Sl Int)) (by repeat constructor) int_len) (by simp only [List.length_cons, List.length_nil]; omega) (by decide) ?_
          clear H
          intro p2 w h2 H
          refine ⟨fun _ => (H.rw_ (by repeat constructor)), ?_⟩
          (try go_frame)
          refine tkL (i := 6) rfl (.of rfl) (yields_val (v := .pointer (some ⟨bG, 14, none⟩)) rfl (fun _ => by go_simp)) (H.rw_ (by repeat constructor)) ?_
          (try go_frame)
          refine anyL_1 (i := 7) (by kernel_rfl) ?_
          refine wpOp_at rfl (.of rfl) rfl ?_
          refine wp_store_H rfl H rfl rfl (by repeat constructor) ?_
          clear H
          intro w H
          refine ⟨fun hw => absurd rfl hw, ?_⟩
          (try go_frame)
          refine anyL_done (by kernel_rfl) ?_ _
          exact ⟨rfl, v, b1, p2, Lib.hid (by rw [h2.out]; simp), H.pick (.cons (by repeat constructor) (.cons (by repeat constructor) (.cons (by repeat constructor) (.cons (by repeat constructor) (.cons (by repeat constructor) (.cons (by repeat constructor) (.cons (by repeat constructor) (.cons (by repeat constructor) .nil)))))))), by first | (simp only [puts_cons, puts_nil, Act.put, List.setIfInBounds_toArray, List.set_cons_succ, List.set_cons_zero]; done) | (simp only [puts_cons, puts_nil, Act.put, List.setIfInBounds_toArray, List.set_cons_succ, List.set_cons_zero]; rfl)⟩
        clear H
        rintro u w ⟨v, b1, p2, HP, H, rfl⟩
        simp only [puts_cons, puts_nil, Act.put, List.setIfInBounds_toArray, List.set_cons_succ, List.set_cons_zero]
        go_wp2_with (first
          | go_skip
          | ((with_reducible refine at_box ?_); first | (refine wpList_box_H rfl rfl H rfl (by constructor) ?_; clear H; intro b w H))
          | ((with_reducible refine at_alloc ?_); first | (refine wpList_alloc_H rfl rfl H ?_; clear H; intro b w H))
          | ((with_reducible refine at_load ?_); first | (refine wpList_load_H rfl rfl H rfl (by repeat constructor) ?_) | (refine wpList_loads_H rfl rfl H rfl (by repeat constructor) ?_))
          | ((with_reducible refine at_store ?_); first | (refine wpList_store_H rfl rfl H rfl rfl (by repeat constructor) ?_; clear H; intro w H)))
        go_roundw
        case rel => exact ⟨k + 1, (⟨g.prog, g.a, g.pc, g.written, g.live, g.ctl, g.pending, g.exit, g.halted, p2⟩ : GV), by omega, by go_num, HS, by show p2.xs.length = k + 1; rw [HP.out, HL.out], H.pick (.cons (by repeat constructor) (.cons (by repeat constructor) (.cons (by repeat constructor) (.cons (by repeat constructor) (.cons (by repeat constructor) (.cons (by repeat constructor) (.cons (by repeat constructor) (.cons (by repeat constructor) .nil))))))))⟩
        case measure => simp [intOf]; omega
    · skip
      go_wp2_with (first
        | go_skip
        | ((with_reducible refine at_box ?_); first | (refine wpList_box_H rfl rfl H rfl (by constructor) ?_; clear H; intro bR w H))
        | ((with_reducible refine at_alloc ?_); first | (refine wpList_alloc_H rfl rfl H ?_; clear H; intro bG w H))
        | ((with_reducible refine at_load ?_); first | (refine wpList_load_H rfl rfl H rfl (by repeat constructor) ?_) | (refine wpList_loads_H rfl rfl H rfl (by repeat constructor) ?_))
        | ((with_reducible refine at_store ?_); first | (refine wpList_store_H rfl rfl H rfl rfl (by repeat constructor) ?_; clear H; intro w H)))
      go_at_call 68
      refine (l13Exit_H s b H (by repeat constructor) R).mono ?_
      clear H
      rintro e w ⟨x, rfl, H⟩
      go_wp2_with (first
        | go_skip
        | ((with_reducible refine at_box ?_); first | (refine wpList_box_H rfl rfl H rfl (by constructor) ?_; clear H; intro bR w H))
        | ((with_reducible refine at_alloc ?_); first | (refine wpList_alloc_H rfl rfl H ?_; clear H; intro bG w H))
        | ((with_reducible refine at_load ?_); first | (refine wpList_load_H rfl rfl H rfl (by repeat constructor) ?_) | (refine wpList_loads_H rfl rfl H rfl (by repeat constructor) ?_))
        | ((with_reducible refine at_store ?_); first | (refine wpList_store_H rfl rfl H rfl rfl (by repeat constructor) ?_; clear H; intro w H)))
      go_at_call 67
      refine (l01Once_H s b _ (by decide) (by decide) H (by repeat constructor) R).mono ?_
      clear H
      rintro e w ⟨hd, rfl, H⟩
      go_wp2_with (first
        | go_skip
        | ((with_reducible refine at_box ?_); first | (refine wpList_box_H rfl rfl H rfl (by constructor) ?_; clear H; intro b w H))
        | ((with_reducible refine at_alloc ?_); first | (refine wpList_alloc_H rfl rfl H ?_; clear H; intro bG w H))
        | ((with_reducible refine at_load ?_); first | (refine wpList_load_H rfl rfl H rfl (by repeat constructor) ?_) | (refine wpList_loads_H rfl rfl H rfl (by repeat constructor) ?_))
        | ((with_reducible refine at_store ?_); first | (refine wpList_store_H rfl rfl H rfl rfl (by repeat constructor) ?_; clear H; intro w H)))
      go_loopw [4] (fun i wr => ∃ (k : Nat) (g : GV), k ≤ 3 ∧ i = .int .i64 k ∧ Hid (g.prog.xs.length ≤ 12 ∧ g.written.xs.length = 4 ∧ g.live.xs.length = 4) ∧ g.seen.xs.length = k ∧ Hp W0 wr [.box bG 53 (garr g).toList, .ins g.prog, .slot g.written, .slot g.live, .int g.seen, .cu b s, .box bR 53 (garr gzero).toList, .all L1]) (fun i _ => 3 - (intOf i).toNat)
      case atStart => exact ⟨0, (⟨d.prog, a, pc, r, l, c, n, x, hd, d.seen⟩ : GV), by omega, rfl, Lib.hid ⟨by rw [hdp.out]; exact p1, r1.out, l1.out⟩, hds.out, H.pick (.cons (by repeat constructor) (.cons (by repeat constructor) (.cons (by repeat constructor) (.cons (by repeat constructor) (.cons (by repeat constructor) (.cons (by repeat constructor) (.cons (by repeat constructor) (.cons (by repeat constructor) .nil))))))))⟩
      case round =>
        clear H
        obtain ⟨k, g, hk0, rfl, HS, hl, H⟩ := hrel
        have hz : g.seen.xs.length ≤ 3 := by omega
        have HL := Lib.hid hl; clear hl
        go_wp2_with (first
          | go_skip
          | ((with_reducible refine at_box ?_); first | (refine wpList_box_H rfl rfl H rfl (by constructor) ?_; clear H; intro b w H))
          | ((with_reducible refine at_alloc ?_); first | (refine wpList_alloc_H rfl rfl H ?_; clear H; intro b w H))
          | ((with_reducible refine at_load ?_); first | (refine wpList_load_H rfl rfl H rfl (by repeat constructor) ?_) | (refine wpList_loads_H rfl rfl H rfl (by repeat constructor) ?_))
          | ((with_reducible refine at_store ?_); first | (refine wpList_store_H rfl rfl H rfl rfl (by repeat constructor) ?_; clear H; intro w H))
          | (go_at_call 94; refine (l01Below_H s b _ (by decide) (by decide) H (by repeat constructor) R).mono ?_; clear H; rintro e w ⟨v, rfl, va, vb, H⟩))
        all_goals first
          | (refine bodyPost_ret (results_H rfl H rfl (by repeat constructor)) rfl ⟨g, rfl, ⟨HS.out.1, by have := HS.out.2.1; omega, by have := HS.out.2.2; omega, hz⟩, ?_⟩; exact (Hp.guest (H.pick (.cons (by repeat constructor) (.cons (by repeat constructor) (.cons (by repeat constructor) (.cons (by repeat constructor) (.cons (by repeat constructor) (.cons (by repeat constructor) .nil))))))) _ _ _ _ _ _).uns2)
          | skip
        refine wp_cut (fun u a' w' => ∃ (v : Int) (b1 : Nat) (p2 : Sl Int), Hid (p2.xs.length = g.seen.xs.length + 1) ∧ Hp W0 w' [.box bG 53 (garr (⟨g.prog, g.a, g.pc, g.written, g.live, g.ctl, g.pending, g.exit, g.halted, p2⟩ : GV)).toList, .ins (⟨g.prog, g.a, g.pc, g.written, g.live, g.ctl, g.pending, g.exit, g.halted, p2⟩ : GV).prog, .slot (⟨g.prog, g.a, g.pc, g.written, g.live, g.ctl, g.pending, g.exit, g.halted, p2⟩ : GV).written, .slot (⟨g.prog, g.a, g.pc, g.written, g.live, g.ctl, g.pending, g.exit, g.halted, p2⟩ : GV).live, .int (⟨g.prog, g.a, g.pc, g.written, g.live, g.ctl, g.pending, g.exit, g.halted, p2⟩ : GV).seen, .cu b s, .box bR 53 (garr gzero).toList, .all L1] ∧ a' = puts u [(42, .pointer (some ⟨bG, 14, none⟩)), (43, (.slice g.seen.A g.seen.xs.length g.seen.c)), (44, (.pointer (some ⟨b, 0, none⟩))), (45, (.int .i64 v)), (46, (.slice (some ⟨b1, 0, none⟩) 1 1)), (47, (.slice p2.A p2.xs.length p2.c)), (48, .pointer (some ⟨bG, 14, none⟩))]) ?_ ?_
        · refine wp_region_last 7 (S := (fun w' => Rw w' bG 53 (garr g))) (by kernel_rfl) ?_
          replace H := H.drew
          refine tkL (i := 0) rfl .here (yields_val (v := .pointer (some ⟨bG, 14, none⟩)) rfl (fun _ => by go_simp)) (H.rw_ (by repeat constructor)) ?_
          (try go_frame)
          refine tkL (i := 1) rfl (.of rfl) (yields_load1_R rfl rfl rfl (fun _ hS => hS) rfl) (H.rw_ (by repeat constructor)) ?_
          (try go_frame)
          refine tkL (i := 2) rfl (.of rfl) (yields_val (v := (.pointer (some ⟨b, 0, none⟩))) rfl (fun _ => by go_simp)) (H.rw_ (by repeat constructor)) ?_
          (try go_frame)
          refine anyL_1 (i := 3) (by kernel_rfl) ?_
          refine wpOp_at rfl (.of rfl) rfl ?_
          refine wp_call_H Tryz.f94 rfl rfl Tryz.func94 (by kernel_rfl) rfl rfl (calls_ex (val := fun v : Int => .int .i64 v) (l01Below_H s b 100 (by decide) (by decide) H (by repeat constructor) R)) ?_
          clear H
          rintro _ w ⟨v, rfl, va, vb, H⟩
          clear va vb
          refine ⟨fun _ => (H.rw_ (by repeat constructor)), ?_⟩
          (try go_frame)
          refine anyL_1 (i := 4) (by kernel_rfl) ?_
          refine wpOp_at rfl (.of rfl) rfl ?_
          refine wp_oneD_H rfl H v rfl CellsOf.int rfl (by decide) ?_
          clear H
          intro b1 w H
          refine ⟨fun _ => (H.rw_ (by repeat constructor)), ?_⟩
          (try go_frame)
          refine anyL_1 (i := 5) (by kernel_rfl) ?_
          refine wpOp_at rfl (.of rfl) rfl ?_
          refine wp_append_H rfl H g.seen (⟨some ⟨b1, 0, none⟩, 1, [v]⟩ : Sl Int) rfl rfl (by repeat constructor) (H.rd (s := (⟨some ⟨b1, 0, none⟩, 1, [v]⟩ : Sl Int)) (by repeat constructor) int_len) (by simp only [List.length_cons, List.length_nil]; omega) (by decide) ?_
          clear H
          intro p2 w h2 H
          refine ⟨fun _ => (H.rw_ (by repeat constructor)), ?_⟩
          (try go_frame)
          refine tkL (i := 6) rfl (.of rfl) (yields_val (v := .pointer (some ⟨bG, 14, none⟩)) rfl (fun _ => by go_simp)) (H.rw_ (by repeat constructor)) ?_
          (try go_frame)
          refine anyL_1 (i := 7) (by kernel_rfl) ?_
          refine wpOp_at rfl (.of rfl) rfl ?_
          refine wp_store_H rfl H rfl rfl (by repeat constructor) ?_
          clear H
          intro w H
          refine ⟨fun hw => absurd rfl hw, ?_⟩
          (try go_frame)
          refine anyL_done (by kernel_rfl) ?_ _
          exact ⟨rfl, v, b1, p2, Lib.hid (by rw [h2.out]; simp), H.pick (.cons (by repeat constructor) (.cons (by repeat constructor) (.cons (by repeat constructor) (.cons (by repeat constructor) (.cons (by repeat constructor) (.cons (by repeat constructor) (.cons (by repeat constructor) (.cons (by repeat constructor) .nil)))))))), by first | (simp only [puts_cons, puts_nil, Act.put, List.setIfInBounds_toArray, List.set_cons_succ, List.set_cons_zero]; done) | (simp only [puts_cons, puts_nil, Act.put, List.setIfInBounds_toArray, List.set_cons_succ, List.set_cons_zero]; rfl)⟩
        clear H
        rintro u w ⟨v, b1, p2, HP, H, rfl⟩
        simp only [puts_cons, puts_nil, Act.put, List.setIfInBounds_toArray, List.set_cons_succ, List.set_cons_zero]
        go_wp2_with (first
          | go_skip
          | ((with_reducible refine at_box ?_); first | (refine wpList_box_H rfl rfl H rfl (by constructor) ?_; clear H; intro b w H))
          | ((with_reducible refine at_alloc ?_); first | (refine wpList_alloc_H rfl rfl H ?_; clear H; intro b w H))
          | ((with_reducible refine at_load ?_); first | (refine wpList_load_H rfl rfl H rfl (by repeat constructor) ?_) | (refine wpList_loads_H rfl rfl H rfl (by repeat constructor) ?_))
          | ((with_reducible refine at_store ?_); first | (refine wpList_store_H rfl rfl H rfl rfl (by repeat constructor) ?_; clear H; intro w H)))
        go_roundw
        case rel => exact ⟨k + 1, (⟨g.prog, g.a, g.pc, g.written, g.live, g.ctl, g.pending, g.exit, g.halted, p2⟩ : GV), by omega, by go_num, HS, by show p2.xs.length = k + 1; rw [HP.out, HL.out], H.pick (.cons (by repeat constructor) (.cons (by repeat constructor) (.cons (by repeat constructor) (.cons (by repeat constructor) (.cons (by repeat constructor) (.cons (by repeat constructor) (.cons (by repeat constructor) (.cons (by repeat constructor) .nil))))))))⟩
        case measure => simp [intOf]; omega
set_option maxRecDepth 100000 in
set_option maxHeartbeats 4000000 in
theorem l15Any_H (s : Sl Int) (b : Nat) {W0 w : World} {L L1 : List En} (H : Hp W0 w L) (t : Take L (.cu b s) L1) (R : Rd u8cell 1 W0 s ∧ s.xs.length ≤ 1048576) : Calls Tryz.prog 147 #[.pointer (some ⟨b, 0, none⟩)] w fun e w' => ∃ x : GV, e = .returned x.val ∧ GSm x ∧ Hp W0 w' (.gst x :: .cu b s :: L1) := by
  replace H := (H.take t).seal
  clear t
  go_enter Tryz.func147, Tryz.ntmps147
  go_wp2_with (first
    | go_skip
    | ((with_reducible refine at_box ?_); first | (refine wpList_box_H rfl rfl H rfl (by constructor) ?_; clear H; intro b w H))
    | ((with_reducible refine at_alloc ?_); first | (refine wpList_alloc_H rfl rfl H ?_; clear H; intro bR w H))
    | ((with_reducible refine at_load ?_); first | (refine wpList_load_H rfl rfl H rfl (by repeat constructor) ?_) | (refine wpList_loads_H rfl rfl H rfl (by repeat constructor) ?_))
    | ((with_reducible refine at_store ?_); first | (refine wpList_store_H rfl rfl H rfl rfl (by repeat constructor) ?_; clear H; intro w H)))
  go_at_call 165
  refine (l15Guest_H s b H (by repeat constructor) R).mono ?_
  clear H
  rintro e w ⟨d, rfl, hs, H⟩
  have HS := Lib.hid hs
  clear hs
  replace H := H.slices
  go_wp2_with (first
    | go_skip
    | ((with_reducible refine at_box ?_); first | (refine wpList_box_H rfl rfl H rfl (by constructor) ?_; clear H; intro b w H))
    | ((with_reducible refine at_alloc ?_); first | (refine wpList_alloc_H rfl rfl H ?_; clear H; intro bG w H))
    | ((with_reducible refine at_load ?_); first | (refine wpList_load_H rfl rfl H rfl (by repeat constructor) ?_) | (refine wpList_loads_H rfl rfl H rfl (by repeat constructor) ?_))
    | ((with_reducible refine at_store ?_); first | (refine wpList_store_H rfl rfl H rfl rfl (by repeat constructor) ?_; clear H; intro w H))
    | ((with_reducible refine at_slice ?_); first | ((with_reducible refine at_dst 16 ?_); refine wpList_lit_H rfl rfl H ([-1, 100] : List Int) (by kernel_rfl) rfl (by decide) (by decide) ?_; clear H; intro bl w H) | ((with_reducible refine at_dst 22 ?_); refine wpList_lit_H rfl rfl H ([-1, 12, 13, 9223372036854775807] : List Int) (by kernel_rfl) rfl (by decide) (by decide) ?_; clear H; intro bm w H))
    | (go_at_call 94; refine (l01Below_H s b _ (by decide) (by decide) H (by repeat constructor) R).mono ?_; clear H; rintro e w ⟨v, rfl, va, vb, H⟩)
    | (go_at_call 144; refine (l10AnyProg_H s b H (by repeat constructor) R).mono ?_; clear H; rintro e w ⟨p, rfl, p1, H⟩)
    | (go_at_call 84; refine (l01PickInt_H s b (⟨some ⟨bl, 0, none⟩, 2, [-1, 100]⟩ : Sl Int) H (by repeat constructor) (by repeat constructor) R (by simp) (by simp)).mono ?_; clear H; rintro e w ⟨ra, rfl, ram, H⟩; have RAM := Lib.hid ram; clear ram)
    | (go_at_call 84; refine (l01PickInt_H s b (⟨some ⟨bm, 0, none⟩, 4, [-1, 12, 13, 9223372036854775807]⟩ : Sl Int) H (by repeat constructor) (by repeat constructor) R (by simp) (by simp)).mono ?_; clear H; rintro e w ⟨rp, rfl, rpm, H⟩; have RPM := Lib.hid rpm; clear rpm)
    | (go_at_call 200; refine (l03AnyTable_H s b H (by repeat constructor) R).mono ?_; clear H; rintro e w ⟨t, rfl, t1, H⟩)
    | (go_at_call 88; refine (l11Any_H s b H (by repeat constructor) R).mono ?_; clear H; rintro e w ⟨c, rfl, H⟩)
    | (go_at_call 166; refine (l14Pend_H s b H (by repeat constructor) R).mono ?_; clear H; rintro e w ⟨n, rfl, H⟩)
    | (go_at_call 201; refine (l13Any_H s b H (by repeat constructor) R).mono ?_; clear H; rintro e w ⟨x, rfl, H⟩))
  all_goals first
    | (refine bodyPost_ret (results_H rfl H rfl (by repeat constructor)) rfl ?_; refine ⟨(⟨p, d.a, d.pc, d.written, d.live, d.ctl, d.pending, d.exit, d.halted, d.seen⟩ : GV), rfl, ⟨by have := HS.out.1; (try dsimp only); omega, by have := HS.out.2.1; (try dsimp only); omega, by have := HS.out.2.2.1; (try dsimp only); omega, by have := HS.out.2.2.2; (try dsimp only); omega⟩, ?_⟩; exact (Hp.guest (H.pick (.cons (by repeat constructor) (.cons (by repeat constructor) (.cons (by repeat constructor) (.cons (by repeat constructor) (.cons (by repeat constructor) (.cons (by repeat constructor) .nil))))))) _ _ _ _ _ _).uns2)
    | (refine bodyPost_ret (results_H rfl H rfl (by repeat constructor)) rfl ?_; refine ⟨(⟨d.prog, ra, d.pc, d.written, d.live, d.ctl, d.pending, d.exit, d.halted, d.seen⟩ : GV), rfl, ⟨by have := HS.out.1; (try dsimp only); omega, by have := HS.out.2.1; (try dsimp only); omega, by have := HS.out.2.2.1; (try dsimp only); omega, by have := HS.out.2.2.2; (try dsimp only); omega⟩, ?_⟩; exact (Hp.guest (H.pick (.cons (by repeat constructor) (.cons (by repeat constructor) (.cons (by repeat constructor) (.cons (by repeat constructor) (.cons (by repeat constructor) (.cons (by repeat constructor) .nil))))))) _ _ _ _ _ _).uns2)
    | (refine bodyPost_ret (results_H rfl H rfl (by repeat constructor)) rfl ?_; refine ⟨(⟨d.prog, d.a, rp, d.written, d.live, d.ctl, d.pending, d.exit, d.halted, d.seen⟩ : GV), rfl, ⟨by have := HS.out.1; (try dsimp only); omega, by have := HS.out.2.1; (try dsimp only); omega, by have := HS.out.2.2.1; (try dsimp only); omega, by have := HS.out.2.2.2; (try dsimp only); omega⟩, ?_⟩; exact (Hp.guest (H.pick (.cons (by repeat constructor) (.cons (by repeat constructor) (.cons (by repeat constructor) (.cons (by repeat constructor) (.cons (by repeat constructor) (.cons (by repeat constructor) .nil))))))) _ _ _ _ _ _).uns2)
    | (refine bodyPost_ret (results_H rfl H rfl (by repeat constructor)) rfl ?_; refine ⟨(⟨d.prog, d.a, d.pc, d.written, t, d.ctl, d.pending, d.exit, d.halted, d.seen⟩ : GV), rfl, ⟨by have := HS.out.1; (try dsimp only); omega, by have := HS.out.2.1; (try dsimp only); omega, by have := HS.out.2.2.1; (try dsimp only); omega, by have := HS.out.2.2.2; (try dsimp only); omega⟩, ?_⟩; exact (Hp.guest (H.pick (.cons (by repeat constructor) (.cons (by repeat constructor) (.cons (by repeat constructor) (.cons (by repeat constructor) (.cons (by repeat constructor) (.cons (by repeat constructor) .nil))))))) _ _ _ _ _ _).uns2)
    | (refine bodyPost_ret (results_H rfl H rfl (by repeat constructor)) rfl ?_; refine ⟨(⟨d.prog, d.a, d.pc, d.written, d.live, c, d.pending, d.exit, d.halted, d.seen⟩ : GV), rfl, ⟨by have := HS.out.1; (try dsimp only); omega, by have := HS.out.2.1; (try dsimp only); omega, by have := HS.out.2.2.1; (try dsimp only); omega, by have := HS.out.2.2.2; (try dsimp only); omega⟩, ?_⟩; exact (Hp.guest (H.pick (.cons (by repeat constructor) (.cons (by repeat constructor) (.cons (by repeat constructor) (.cons (by repeat constructor) (.cons (by repeat constructor) (.cons (by repeat constructor) .nil))))))) _ _ _ _ _ _).uns2)
    | (refine bodyPost_ret (results_H rfl H rfl (by repeat constructor)) rfl ?_; refine ⟨(⟨d.prog, d.a, d.pc, d.written, d.live, d.ctl, n, d.exit, d.halted, d.seen⟩ : GV), rfl, ⟨by have := HS.out.1; (try dsimp only); omega, by have := HS.out.2.1; (try dsimp only); omega, by have := HS.out.2.2.1; (try dsimp only); omega, by have := HS.out.2.2.2; (try dsimp only); omega⟩, ?_⟩; exact (Hp.guest (H.pick (.cons (by repeat constructor) (.cons (by repeat constructor) (.cons (by repeat constructor) (.cons (by repeat constructor) (.cons (by repeat constructor) (.cons (by repeat constructor) .nil))))))) _ _ _ _ _ _).uns2)
    | (refine bodyPost_ret (results_H rfl H rfl (by repeat constructor)) rfl ?_; refine ⟨(⟨d.prog, d.a, d.pc, d.written, d.live, d.ctl, d.pending, x, d.halted, d.seen⟩ : GV), rfl, ⟨by have := HS.out.1; (try dsimp only); omega, by have := HS.out.2.1; (try dsimp only); omega, by have := HS.out.2.2.1; (try dsimp only); omega, by have := HS.out.2.2.2; (try dsimp only); omega⟩, ?_⟩; exact (Hp.guest (H.pick (.cons (by repeat constructor) (.cons (by repeat constructor) (.cons (by repeat constructor) (.cons (by repeat constructor) (.cons (by repeat constructor) (.cons (by repeat constructor) .nil))))))) _ _ _ _ _ _).uns2)
    | (refine bodyPost_ret (results_H rfl H rfl (by repeat constructor)) rfl ?_; refine ⟨(⟨d.prog, d.a, d.pc, t, d.live, d.ctl, d.pending, d.exit, d.halted, d.seen⟩ : GV), rfl, ⟨by have := HS.out.1; (try dsimp only); omega, by have := HS.out.2.1; (try dsimp only); omega, by have := HS.out.2.2.1; (try dsimp only); omega, by have := HS.out.2.2.2; (try dsimp only); omega⟩, ?_⟩; exact (Hp.guest (H.pick (.cons (by repeat constructor) (.cons (by repeat constructor) (.cons (by repeat constructor) (.cons (by repeat constructor) (.cons (by repeat constructor) (.cons (by repeat constructor) .nil))))))) _ _ _ _ _ _).uns2)
    | (refine bodyPost_ret (results_H rfl H rfl (by repeat constructor)) rfl ?_; refine ⟨(⟨d.prog, d.a, d.pc, d.written, d.live, d.ctl, d.pending, d.exit, d.halted, d.seen⟩ : GV), rfl, ⟨by have := HS.out.1; (try dsimp only); omega, by have := HS.out.2.1; (try dsimp only); omega, by have := HS.out.2.2.1; (try dsimp only); omega, by have := HS.out.2.2.2; (try dsimp only); omega⟩, ?_⟩; exact (Hp.guest (H.pick (.cons (by repeat constructor) (.cons (by repeat constructor) (.cons (by repeat constructor) (.cons (by repeat constructor) (.cons (by repeat constructor) (.cons (by repeat constructor) .nil))))))) _ _ _ _ _ _).uns2)
    | skip
  rename_i e0 e1 e2 e3 e4 e5 e6 e7
  clear e0 e1 e2 e3 e4 e5 e6 e7
  go_loopg [] (60 - d.seen.xs.length) (fun k wr => ∃ g : GV, Hid (k + g.seen.xs.length = 60) ∧ Hid (g.prog.xs.length ≤ 12 ∧ g.written.xs.length ≤ 4 ∧ g.live.xs.length ≤ 4) ∧ g.seen.xs.length ≤ 42 ∧ Hp W0 wr [.box bG 53 (garr g).toList, .ins g.prog, .slot g.written, .slot g.live, .int g.seen, .cu b s, .box bR 53 (garr gzero).toList, .all L1])
  case atStart => exact ⟨d, Lib.hid (by have := HS.out.2.2.2; omega), Lib.hid ⟨HS.out.1, by have := HS.out.2.1; omega, by have := HS.out.2.2.1; omega⟩, by have := HS.out.2.2.2; omega, H.pick (.cons (by repeat constructor) (.cons (by repeat constructor) (.cons (by repeat constructor) (.cons (by repeat constructor) (.cons (by repeat constructor) (.cons (by repeat constructor) (.cons (by repeat constructor) (.cons (by repeat constructor) .nil))))))))⟩
  case round =>
    clear H HS
    obtain ⟨g, hk, HS, hz, H⟩ := hrel
    go_wp2
    refine wp_cut (fun u a' w' => ∃ (v : Int), 0 ≤ v ∧ v < 3 ∧ Hp W0 w' [.box bG 53 (garr g).toList, .ins g.prog, .slot g.written, .slot g.live, .int g.seen, .cu b s, .box bR 53 (garr gzero).toList, .all L1] ∧ a' = puts u [(47, .pointer (some ⟨bG, 14, none⟩)), (48, (.slice g.seen.A g.seen.xs.length g.seen.c)), (49, (.int .i64 (g.seen.xs.length : Int))), (50, (.pointer (some ⟨b, 0, none⟩))), (51, (.int .i64 v)), (52, (.int .i64 (39 + v))), (53, (.bool (decide ((g.seen.xs.length : Int) < 39 + v))))]) ?_ ?_
    · refine wp_region_held (S := (fun w' => Rw w' bG 53 (garr g))) (by kernel_rfl) ?_
      replace H := H.drew
      refine tkH (i := 0) rfl .here (yields_val (v := .pointer (some ⟨bG, 14, none⟩)) rfl (fun _ => by go_simp)) (H.rw_ (by repeat constructor)) ?_
      (try go_frame)
      refine tkH (i := 1) rfl (.of rfl) (yields_load1_R rfl rfl rfl (fun _ hS => hS) rfl) (H.rw_ (by repeat constructor)) ?_
      (try go_frame)
      refine tkH (i := 2) rfl (.of rfl) (yields_val (v := (.int .i64 (g.seen.xs.length : Int))) rfl (fun _ => by go_simp)) (H.rw_ (by repeat constructor)) ?_
      (try go_frame)
      refine tkH (i := 3) rfl (.of rfl) (yields_val (v := (.pointer (some ⟨b, 0, none⟩))) rfl (fun _ => by go_simp)) (H.rw_ (by repeat constructor)) ?_
      (try go_frame)
      refine anyH_1 (i := 4) (by kernel_rfl) ?_
      refine wpOp_at rfl (.of rfl) rfl ?_
      refine wp_call_H Tryz.f94 rfl rfl Tryz.func94 (by kernel_rfl) rfl rfl (calls_ex (val := fun v : Int => .int .i64 v) (l01Below_H s b 3 (by decide) (by decide) H (by repeat constructor) R)) ?_
      clear H
      rintro _ w ⟨v, rfl, va, vb, H⟩
      refine ⟨(H.rw_ (by repeat constructor)), ?_⟩
      (try go_frame)
      refine tkH (i := 5) rfl (.of rfl) (yields_val (v := (.int .i64 (39 + v))) rfl (fun _ => by (first | (go_simp; done) | (go_simp; rw [wrapD (39 + v) (by omega) (by omega)]) | (rw [← wrapD (39 + v) (by omega) (by omega)]; go_simp; done) | (go_simp; omega) | (go_simp; simpa using wrapD (39 + v) (by omega) (by omega))))) (H.rw_ (by repeat constructor)) ?_
      (try go_frame)
      refine tkH (i := 6) rfl (.of rfl) (yields_val (v := (.bool (decide ((g.seen.xs.length : Int) < 39 + v)))) rfl (fun _ => by go_simp)) (H.rw_ (by repeat constructor)) ?_
      (try go_frame)
      refine wpAnyH_done (by kernel_rfl) ?_ _
      exact ⟨rfl, v, va, vb, H.pick (.cons (by repeat constructor) (.cons (by repeat constructor) (.cons (by repeat constructor) (.cons (by repeat constructor) (.cons (by repeat constructor) (.cons (by repeat constructor) (.cons (by repeat constructor) (.cons (by repeat constructor) .nil)))))))), by first | (simp only [puts_cons, puts_nil, Act.put, List.setIfInBounds_toArray, List.set_cons_succ, List.set_cons_zero]; done) | (simp only [puts_cons, puts_nil, Act.put, List.setIfInBounds_toArray, List.set_cons_succ, List.set_cons_zero]; rfl)⟩
    clear H
    rintro u w ⟨v, va, vb, H, rfl⟩
    simp only [puts_cons, puts_nil, Act.put, List.setIfInBounds_toArray, List.set_cons_succ, List.set_cons_zero]
    go_wp2_with (first
      | go_skip
      | ((with_reducible refine at_box ?_); first | (refine wpList_box_H rfl rfl H rfl (by constructor) ?_; clear H; intro b w H))
      | ((with_reducible refine at_alloc ?_); first | (refine wpList_alloc_H rfl rfl H ?_; clear H; intro b w H))
      | ((with_reducible refine at_load ?_); first | (refine wpList_load_H rfl rfl H rfl (by repeat constructor) ?_) | (refine wpList_loads_H rfl rfl H rfl (by repeat constructor) ?_))
      | ((with_reducible refine at_store ?_); first | (refine wpList_store_H rfl rfl H rfl rfl (by repeat constructor) ?_; clear H; intro w H))
      | ((with_reducible refine at_slice ?_); first | ((with_reducible refine at_dst 56 ?_); refine wpList_one_H rfl rfl H (1 : Int) rfl CellsOf.int rfl (by decide) ?_; clear H; intro b1 w H))
      | ((with_reducible refine at_append ?_); first | ((with_reducible refine at_dst 57 ?_); refine wpList_append_H rfl rfl H g.seen (⟨some ⟨b1, 0, none⟩, 1, [(1 : Int)]⟩ : Sl Int) rfl rfl (by repeat constructor) (H.rd (s := (⟨some ⟨b1, 0, none⟩, 1, [(1 : Int)]⟩ : Sl Int)) (by repeat constructor) int_len) (by simp only [List.length_cons, List.length_nil]; omega) (by decide) ?_; clear H; intro p2 w h2 H)))
    all_goals first
      | (refine bodyPost_ret (results_H rfl H rfl (by repeat constructor)) rfl ?_; refine ⟨g, rfl, ⟨by have := HS.out.1; omega, by have := HS.out.2.1; omega, by have := HS.out.2.2; omega, by omega⟩, ?_⟩; exact (Hp.guest (H.pick (.cons (by repeat constructor) (.cons (by repeat constructor) (.cons (by repeat constructor) (.cons (by repeat constructor) (.cons (by repeat constructor) (.cons (by repeat constructor) .nil))))))) _ _ _ _ _ _).uns2)
      | (have h3 : p2.xs.length = g.seen.xs.length + 1 := (by rw [h2.out]; simp); have hk2 := hk.out; go_roundg (60 - p2.xs.length); (case measure => omega); (case rel => exact ⟨(⟨g.prog, g.a, g.pc, g.written, g.live, g.ctl, g.pending, g.exit, g.halted, p2⟩ : GV), Lib.hid (by show 60 - p2.xs.length + p2.xs.length = 60; omega), HS, (by show p2.xs.length ≤ 42; omega), H.pick (.cons (by repeat constructor) (.cons (by repeat constructor) (.cons (by repeat constructor) (.cons (by repeat constructor) (.cons (by repeat constructor) (.cons (by repeat constructor) (.cons (by repeat constructor) (.cons (by repeat constructor) .nil))))))))⟩))
end Go.Proofs.YtaafnenmdombiaaGreat
