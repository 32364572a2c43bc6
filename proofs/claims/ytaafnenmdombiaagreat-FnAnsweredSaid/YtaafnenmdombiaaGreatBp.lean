/- Contracts of PutOut and WithGuest, of the program and of the reference. No condition but that the arguments lie in memory. -/
import Derived.Maps.RangeWalk
import Derived.Test.YtaafnenmdombiaaGreatBc
import Derived.Test.YtaafnenmdombiaaGreatGd
namespace Go.Proofs.YtaafnenmdombiaaGreat
set_option linter.unusedSimpArgs false
set_option linter.unusedVariables false
set_option linter.unusedSimpArgs false
set_option linter.unusedVariables false
open Go.RowKit
def putOutM (m : MB) (n : Int) : MB := if m.outs.length < 40 then { m with outs := m.outs ++ [n] } else m
def withGuestM (m : MB) (g : Int) (x : MG) : MB := if hasM m g then { m with guests := m.guests.set g.toNat x } else m
section
variable {B d : BV}
theorem m_outs (h : Hid (d.m = B.m)) : d.outs.xs = B.outs.xs := congrArg MB.outs h.out
theorem m_olen (h : Hid (d.m = B.m)) : d.outs.xs.length = B.outs.xs.length := congrArg List.length (m_outs h)
theorem m_glen (h : Hid (d.m = B.m)) : d.gs.xs.length = B.gs.xs.length := by
  have := congrArg List.length (congrArg MB.guests h.out)
  simpa [BV.m, gsOf] using this
theorem m_big (h : Hid (d.m = B.m)) (Z : BBig B) : BBig d := by unfold BBig at *; rw [h.out]; exact Z
end
theorem Hp.many_set {w0 w : World} {L : List En} {α : Type} {f : α → En} {l : List α} {k : Nat} {x : α} (hk : k < l.length) (H : Hp w0 w (f x :: .many f l :: L)) : Hp w0 w (.many f (l.set k x) :: L) := by
  have e : l = l.take k ++ l[k] :: l.drop (k + 1) := by
    rw [List.getElem_cons_drop]; exact (List.take_append_drop _ _).symm
  have e2 : l.set k x = l.take k ++ x :: l.drop (k + 1) := by rw [List.set_eq_take_append_cons_drop, if_pos hk]
  rw [e2]
  rw [e] at H
  have H1 := (H.perm (List.Perm.swap _ _ _)).many_split.drop
  refine Hp.many_join (H1.perm ?_)
  exact ((List.Perm.swap _ _ _).cons _).trans (List.Perm.swap _ _ _)
section
variable {P : Program} {ops : Array Oper} {o : Oper} {a : Act} {w0 w : World} {L L' : List En} {Q : Go.Exit → Act → World → Prop} {K : Act → World → Prop} {α : Type} {enc : α → List Value} {sz e : Nat}
theorem wp_index_n {t : TypeId} {x ix : Operand} (ho : o.op = .indexAddr t x ix) {bytes : Nat} [hE : EI P t enc sz bytes e] (s : Sl α) (hs : Rd enc sz w s) {k m : Nat} (hx : a.eval x = .slice s.A m s.c) (hi : a.eval ix = .int .i64 k)
    (hm : s.xs.length = m) (h1 : k < m) (h : K (a.put o.dst (.pointer (some ⟨ablk s.A, aoff s.A + k * sz, none⟩))) w) : o.wp P a w K Q := by
  subst hm
  obtain ⟨i, z, hi', hz, hsize, hby, hzs⟩ := hE.info.hi
  obtain ⟨hA, _⟩ := hs.addr (k := k) h1
  have h1' : (k : Int) < s.xs.length := by omega
  have hr : (Instr.indexAt t (.slice s.A s.xs.length s.c) (.int .i64 k)).run P w = .ok (.pointer (some ⟨ablk s.A, aoff s.A + k * sz, none⟩)) w := by
    rw [hA]
    simp [Instr.indexAt, asIntOf, run_underlying hE.info.ht, sizeOf, typeInfo, hi', hsize, h1, addj, ablk, aoff, go_sem]
  unfold Oper.wp execOp
  simp only [ho, hx, hi, Sem.run_bind, Sem.run_pure, Result.andThen_ok, hr]
  exact h
theorem wp_store_el {ty : TypeId} {x y0 : Operand} (ho : o.op = .store ty x y0) (H : Hp w0 w L) (s : Sl α) (tk : Take L (.sl enc sz e s) L') (henc : ∀ x, (enc x).length = sz) {k j : Nat}
    {q : Nat} (hx : a.eval x = .pointer (some ⟨ablk s.A, q, none⟩)) {v : Value} (hy : a.eval y0 = v) {n : Nat} [hN : TyN P ty n] (y y' : α) (hk : s.xs[k]? = some y) (hq : q = aoff s.A + k * sz + j) {vs : List Value} (hv : CellsOf v vs) (hS : SetsAt (enc y) j vs (enc y')) (hn : vs.length = n) (h1 : vs.all Value.oneCell' = true)
    (h : ∀ w', Hp w0 w' (.sl enc sz e { s with xs := s.xs.set k y' } :: L') → K (a.put o.dst undef) w') : o.wp P a w K Q := by
  subst hq
  obtain ⟨w', hr, hH⟩ := run_store_el (P := P) (ty := ty) H tk henc hk hv hS hn h1
  unfold Oper.wp execOp
  simp only [ho, hx, hy, Instr.storeAt, Instr.sureAddr, Sem.run_bind, Sem.run_pure, Result.andThen_ok, hr]
  exact h w' hH
/-- A maker of a guest, told for a region that draws. -/
theorem madeg_H {f : FuncId} {args : Array Value} {A : List Ins} {a pc : Int} {W V : List Slot} {ctl : Ctl} {pn : Int} {x : Exit} {hd : Bool} {S : List Int} (H : Hp w0 w L) (h : Calls P f args w (MkGc w A a pc W V ctl pn x hd S)) :
    Calls P f args w (fun e w' => ∃ v, e = .returned v ∧ ∃ g : GV, v = .agg #[.slice g.prog.A g.prog.xs.length g.prog.c, .int .i64 a, .int .i64 pc, .slice g.written.A g.written.xs.length g.written.c, .slice g.live.A g.live.xs.length g.live.c,
      .int .i64 ctl.traps, .int .i64 ctl.post, .bool ctl.opn, .int .i64 pn, .int .i64 x.kind, .int .i64 x.page, .bool x.write, .int .i64 x.n, .bool hd, .slice g.seen.A g.seen.xs.length g.seen.c] ∧
      Hid (g.m = ⟨A, a, pc, W, V, ctl, pn, x, hd, S⟩) ∧ g = ⟨g.prog, a, pc, g.written, g.live, ctl, pn, x, hd, g.seen⟩ ∧ Hp w0 w' (.gst g :: L)) := by
  refine h.mono fun e w' h => ?_
  obtain ⟨p, r, l, n, rfl, rfl, rfl, rfl, rfl, ho, hb⟩ := h
  exact ⟨_, rfl, ⟨p, a, pc, r, l, ctl, pn, x, hd, n⟩, rfl, Lib.hid rfl, rfl, H.add_gst ho hb⟩
end
set_option maxRecDepth 100000 in
set_option maxHeartbeats 4000000 in
theorem putOut_c (B : BV) (n : Int) (W0 : World) (R : BRd W0 B) (Z : BBig B) : Calls Tryz.prog 47 #[B.val, .int .i64 n] W0 fun e w' => ∃ d : BV, e = .returned d.val ∧ d.m = putOutM B.m n ∧ Hp W0 w' [.bare d] := by
  have z3 := Z.outs
  by_cases hlt : B.outs.xs.length < 40
  · have HM : Hid (putOutM B.m n = { B.m with outs := B.m.outs ++ [n] }) := by show putOutM B.m n = _; unfold putOutM; exact if_pos hlt
    have H := Hp.start W0
    go_enter Tryz.func47, Tryz.ntmps47
    go_wp2_with (first
      | go_skip
      | ((with_reducible refine at_box ?_); first | (refine wpList_box_H rfl rfl H rfl (by constructor) ?_; clear H; intro bB w H))
      | ((with_reducible refine at_alloc ?_); first | (refine wpList_alloc_H rfl rfl H ?_; clear H; intro bR w H))
      | ((with_reducible refine at_load ?_); first | (refine wpList_load_H rfl rfl H rfl (by repeat constructor) ?_) | (refine wpList_loads_H rfl rfl H rfl (by repeat constructor) ?_))
      | ((with_reducible refine at_store ?_); first | (refine wpList_store_H rfl rfl H rfl rfl (by repeat constructor) ?_; clear H; intro w H))
      | ((with_reducible refine at_slice ?_); first | (refine wpList_one_H rfl rfl H n rfl (by constructor) rfl (by decide) ?_; clear H; intro bl w H))
      | ((with_reducible refine at_append ?_); first | (refine wpList_append_H rfl rfl H d.outs (⟨some ⟨bl, 0, none⟩, 1, [n]⟩ : Sl Int) rfl rfl (by repeat constructor) (H.rd (by repeat constructor) int_len) (by have := m_olen HD; simp only [List.length_cons, List.length_nil]; omega) (by decide) ?_; clear H; intro c w HX H))
      | (go_at_call 113; refine (copyBare_c B _ (R.at_ H) Z).mono ?_; rintro e w ⟨d, rfl, x1, K⟩; have HD := Lib.hid x1; clear x1; have hl : d.outs.xs.length < 40 := (by have := m_olen HD; omega); replace H := (H.add_all K).bparts; clear K))
    refine bodyPost_ret (results_H rfl H rfl (by repeat constructor)) rfl ⟨⟨d.mem, d.gs, c, d.pend⟩, rfl, ?_, H.bare5 (.cons (by repeat constructor) (.cons (by repeat constructor) (.cons (by repeat constructor) (.cons (by repeat constructor) (.cons (by repeat constructor) .nil))))) rfl rfl⟩
    rw [HM.out, ← HD.out]; simp only [BV.m]; rw [HX.out]
  · have HM : Hid (putOutM B.m n = B.m) := by show putOutM B.m n = _; unfold putOutM; exact if_neg hlt
    have H := Hp.start W0
    go_enter Tryz.func47, Tryz.ntmps47
    go_wp2_with (first
      | go_skip
      | ((with_reducible refine at_box ?_); first | (refine wpList_box_H rfl rfl H rfl (by constructor) ?_; clear H; intro bB w H))
      | ((with_reducible refine at_alloc ?_); first | (refine wpList_alloc_H rfl rfl H ?_; clear H; intro bR w H))
      | ((with_reducible refine at_load ?_); first | (refine wpList_load_H rfl rfl H rfl (by repeat constructor) ?_) | (refine wpList_loads_H rfl rfl H rfl (by repeat constructor) ?_))
      | ((with_reducible refine at_store ?_); first | (refine wpList_store_H rfl rfl H rfl rfl (by repeat constructor) ?_; clear H; intro w H))
      | (go_at_call 113; refine (copyBare_c B _ (R.at_ H) Z).mono ?_; rintro e w ⟨d, rfl, x1, K⟩; have HD := Lib.hid x1; clear x1; have hl : ¬ d.outs.xs.length < 40 := (by have := m_olen HD; omega); replace H := (H.add_all K).bparts; clear K))
    refine bodyPost_ret (results_H rfl H rfl (by repeat constructor)) rfl ⟨d, rfl, ?_, H.bare5 (.cons (by repeat constructor) (.cons (by repeat constructor) (.cons (by repeat constructor) (.cons (by repeat constructor) (.cons (by repeat constructor) .nil))))) rfl rfl⟩
    rw [HM.out, HD.out]
set_option maxRecDepth 100000 in
set_option maxHeartbeats 4000000 in
theorem specPutOut_c (B : BV) (n : Int) (W0 : World) (R : BRd W0 B) (Z : BBig B) : Calls Tryz.prog 48 #[B.val, .int .i64 n] W0 fun e w' => ∃ d : BV, e = .returned d.val ∧ d.m = putOutM B.m n ∧ Hp W0 w' [.bare d] := by
  have z3 := Z.outs
  by_cases hlt : B.outs.xs.length < 40
  · have HM : Hid (putOutM B.m n = { B.m with outs := B.m.outs ++ [n] }) := by show putOutM B.m n = _; unfold putOutM; exact if_pos hlt
    have H := Hp.start W0
    go_enter Tryz.func48, Tryz.ntmps48
    go_wp2_with (first
      | go_skip
      | ((with_reducible refine at_box ?_); first | (refine wpList_box_H rfl rfl H rfl (by constructor) ?_; clear H; intro bB w H))
      | ((with_reducible refine at_alloc ?_); first | (refine wpList_alloc_H rfl rfl H ?_; clear H; intro bR w H))
      | ((with_reducible refine at_load ?_); first | (refine wpList_load_H rfl rfl H rfl (by repeat constructor) ?_) | (refine wpList_loads_H rfl rfl H rfl (by repeat constructor) ?_))
      | ((with_reducible refine at_store ?_); first | (refine wpList_store_H rfl rfl H rfl rfl (by repeat constructor) ?_; clear H; intro w H))
      | ((with_reducible refine at_slice ?_); first | (refine wpList_one_H rfl rfl H n rfl (by constructor) rfl (by decide) ?_; clear H; intro bl w H))
      | ((with_reducible refine at_append ?_); first | (refine wpList_append_H rfl rfl H d.outs (⟨some ⟨bl, 0, none⟩, 1, [n]⟩ : Sl Int) rfl rfl (by repeat constructor) (H.rd (by repeat constructor) int_len) (by have := m_olen HD; simp only [List.length_cons, List.length_nil]; omega) (by decide) ?_; clear H; intro c w HX H))
      | (go_at_call 76; refine (l17Copy_c B _ (R.at_ H) Z).mono ?_; rintro e w ⟨d, rfl, x1, K⟩; have HD := Lib.hid x1; clear x1; have hl : d.outs.xs.length < 40 := (by have := m_olen HD; omega); replace H := (H.add_all K).bparts; clear K))
    refine bodyPost_ret (results_H rfl H rfl (by repeat constructor)) rfl ⟨⟨d.mem, d.gs, c, d.pend⟩, rfl, ?_, H.bare5 (.cons (by repeat constructor) (.cons (by repeat constructor) (.cons (by repeat constructor) (.cons (by repeat constructor) (.cons (by repeat constructor) .nil))))) rfl rfl⟩
    rw [HM.out, ← HD.out]; simp only [BV.m]; rw [HX.out]
  · have HM : Hid (putOutM B.m n = B.m) := by show putOutM B.m n = _; unfold putOutM; exact if_neg hlt
    have H := Hp.start W0
    go_enter Tryz.func48, Tryz.ntmps48
    go_wp2_with (first
      | go_skip
      | ((with_reducible refine at_box ?_); first | (refine wpList_box_H rfl rfl H rfl (by constructor) ?_; clear H; intro bB w H))
      | ((with_reducible refine at_alloc ?_); first | (refine wpList_alloc_H rfl rfl H ?_; clear H; intro bR w H))
      | ((with_reducible refine at_load ?_); first | (refine wpList_load_H rfl rfl H rfl (by repeat constructor) ?_) | (refine wpList_loads_H rfl rfl H rfl (by repeat constructor) ?_))
      | ((with_reducible refine at_store ?_); first | (refine wpList_store_H rfl rfl H rfl rfl (by repeat constructor) ?_; clear H; intro w H))
      | (go_at_call 76; refine (l17Copy_c B _ (R.at_ H) Z).mono ?_; rintro e w ⟨d, rfl, x1, K⟩; have HD := Lib.hid x1; clear x1; have hl : ¬ d.outs.xs.length < 40 := (by have := m_olen HD; omega); replace H := (H.add_all K).bparts; clear K))
    refine bodyPost_ret (results_H rfl H rfl (by repeat constructor)) rfl ⟨d, rfl, ?_, H.bare5 (.cons (by repeat constructor) (.cons (by repeat constructor) (.cons (by repeat constructor) (.cons (by repeat constructor) (.cons (by repeat constructor) .nil))))) rfl rfl⟩
    rw [HM.out, HD.out]
set_option maxRecDepth 100000 in
set_option maxHeartbeats 4000000 in
theorem withGuest_c (B : BV) (g : Int) (x : GV) (W0 : World) (R : BRd W0 B) (Z : BBig B) (Rx : GRd W0 x) (Zx : GBig x) : Calls Tryz.prog 38 #[B.val, .int .i64 g, x.val] W0 fun e w' => ∃ d : BV, e = .returned d.val ∧ d.m = withGuestM B.m g x.m ∧ Hp W0 w' [.bare d] := by
  have z2 := Z.gs
  by_cases hg : 0 ≤ g ∧ g < B.gs.xs.length
  · obtain ⟨k, rfl⟩ := Int.eq_ofNat_of_zero_le hg.1
    have hk : k < B.gs.xs.length := by omega
    have HB : Hid (hasB (k : Int) (B.gs.xs.length : Int) = true) := by show _ = _; simp [hasB]; omega
    have HM : Hid (withGuestM B.m k x.m = { B.m with guests := B.m.guests.set k x.m }) := by
      show withGuestM B.m k x.m = _
      have h : hasM B.m k = true := by simp [hasM, hasB, BV.m, gsOf, hk]
      unfold withGuestM; rw [if_pos h]; rfl
    clear hg
    have H := Hp.start W0
    go_enter Tryz.func38, Tryz.ntmps38
    go_wp2_with (first
      | go_skip
      | ((with_reducible refine at_box ?_); first | (refine wpList_box_H (cs := (barr B).toList) rfl rfl H rfl CellsOf.agg ?_; clear H; intro bB w H) | (refine wpList_box_H rfl rfl H rfl (by constructor) ?_; clear H; intro bX w H))
      | ((with_reducible refine at_alloc ?_); first | ((with_reducible refine at_dst 6 ?_); refine wpList_alloc_H rfl rfl H ?_; clear H; intro bR w H) | (refine wpList_alloc_H rfl rfl H ?_; clear H; intro bO w H))
      | ((with_reducible refine at_load ?_); first | (refine wpList_load_H rfl rfl H rfl (by repeat constructor) ?_) | (refine wpList_loads_H rfl rfl H rfl (by repeat constructor) ?_))
      | ((with_reducible refine at_store ?_); first | (refine wpList_store_H rfl rfl H rfl rfl (by repeat constructor) ?_; clear H; intro w H))
      | (go_at_call 113; refine (copyBare_c B _ (R.at_ H) Z).mono ?_; rintro e w ⟨d, rfl, x1, K⟩; have HD := Lib.hid x1; clear x1; replace H := (H.add_all K).bparts; clear K)
      | (go_at_call 133; refine (has_any _ _ _).mono ?_; rintro e w' ⟨he, hw⟩; subst hw; rw [HB.out] at he; subst he))
    obtain ⟨y, hy⟩ : ∃ y, d.gs.xs[k]? = some y := ⟨_, List.getElem?_eq_getElem (by rw [m_glen HD]; exact hk)⟩
    have HK := Lib.hid hy; clear hy
    refine wp_cut (fun u a' w' => ∃ (c : GV), Hid (c.m = x.m) ∧ c = ⟨c.prog, x.a, x.pc, c.written, c.live, x.ctl, x.pending, x.exit, x.halted, c.seen⟩ ∧ Hp W0 w' [.gst c, .many En.gst d.gs.xs, .gsl ⟨d.gs.A, d.gs.c, d.gs.xs.set k ⟨c.prog, x.a, x.pc, c.written, c.live, x.ctl, x.pending, x.exit, x.halted, c.seen⟩⟩, .rows d.mem, .many En.int d.mem.xs, .int d.outs, .box bO 28 (barr d).toList, .box bR 28 [.slice none 0 0, .slice none 0 0, .slice none 0 0, .int .i64 0]] ∧ a' = puts u [(15, .pointer (some ⟨bO, 1, none⟩)), (16, .slice d.gs.A d.gs.xs.length d.gs.c), (17, (.int .i64 k)), (18, x.val), (19, .agg #[.slice c.prog.A c.prog.xs.length c.prog.c, .int .i64 x.a, .int .i64 x.pc, .slice c.written.A c.written.xs.length c.written.c, .slice c.live.A c.live.xs.length c.live.c, .int .i64 x.ctl.traps, .int .i64 x.ctl.post, .bool x.ctl.opn, .int .i64 x.pending, .int .i64 x.exit.kind, .int .i64 x.exit.page, .bool x.exit.write, .int .i64 x.exit.n, .bool x.halted, .slice c.seen.A c.seen.xs.length c.seen.c]), (20, (.pointer (some ⟨ablk d.gs.A, aoff d.gs.A + k * 15, none⟩)))]) ?_ ?_
    · refine wp_region_held (S := (fun w' => Rw w' bO 28 (barr d) ∧ Rw w' bX 53 (garr x))) (by kernel_rfl) ?_
      replace H := H.drew
      refine tkH (i := 0) rfl .here (yields_val (v := .pointer (some ⟨bO, 1, none⟩)) rfl (fun _ => by go_simp)) ⟨H.rw_ (by repeat constructor), H.rw_ (by repeat constructor)⟩ ?_
      (try go_frame)
      refine tkH (i := 1) rfl (.of rfl) (yields_load1_R rfl rfl rfl (fun _ hS => hS.1) rfl) ⟨H.rw_ (by repeat constructor), H.rw_ (by repeat constructor)⟩ ?_
      (try go_frame)
      refine tkH (i := 2) rfl (.of rfl) (yields_val (v := (.int .i64 k)) rfl (fun _ => by go_simp)) ⟨H.rw_ (by repeat constructor), H.rw_ (by repeat constructor)⟩ ?_
      (try go_frame)
      refine tkH (i := 3) rfl (.of rfl) (yields_loads_R rfl rfl rfl (fun _ hS => hS.2) (by repeat constructor)) ⟨H.rw_ (by repeat constructor), H.rw_ (by repeat constructor)⟩ ?_
      (try go_frame)
      refine anyH_1 (i := 4) (by kernel_rfl) ?_
      refine wpOp_at rfl (.of rfl) rfl ?_
      refine wp_call_H Tryz.f148 rfl rfl Tryz.func148 (by kernel_rfl) rfl rfl (madeg_H H (copyGuest_c x _ (Rx.at_ H) Zx)) ?_
      clear H
      rintro _ w ⟨c, rfl, HC, HCE, H⟩
      refine ⟨⟨H.rw_ (by repeat constructor), H.rw_ (by repeat constructor)⟩, ?_⟩
      (try go_frame)
      refine anyH_1 (i := 5) (by kernel_rfl) ?_
      refine wpOp_at rfl (.of rfl) rfl ?_
      refine wp_index_n rfl d.gs (H.rdgsl (by repeat constructor)) rfl rfl rfl (by have := HK.out; exact (List.getElem?_eq_some_iff.1 this).1) ?_
      refine ⟨⟨H.rw_ (by repeat constructor), H.rw_ (by repeat constructor)⟩, ?_⟩
      (try go_frame)
      refine anyH_1 (i := 6) (by kernel_rfl) ?_
      refine wpOp_at rfl (.of rfl) rfl ?_
      refine wp_store_el rfl H d.gs (by repeat constructor) g_len rfl rfl y ⟨c.prog, x.a, x.pc, c.written, c.live, x.ctl, x.pending, x.exit, x.halted, c.seen⟩ HK.out (Nat.add_zero _).symm (by constructor) (by repeat constructor) (by exact rfl) (by exact rfl) ?_
      clear H
      intro w H
      refine ⟨⟨H.rw_ (by repeat constructor), H.rw_ (by repeat constructor)⟩, ?_⟩
      (try go_frame)
      refine wpAnyH_done (by kernel_rfl) ?_ _
      exact ⟨rfl, c, HC, HCE, H.pick (.cons (by repeat constructor) (.cons (by repeat constructor) (.cons (by repeat constructor) (.cons (by repeat constructor) (.cons (by repeat constructor) (.cons (by repeat constructor) (.cons (by repeat constructor) (.cons (by repeat constructor) .nil)))))))), by first | (simp only [puts_cons, puts_nil, Act.put, List.setIfInBounds_toArray, List.set_cons_succ, List.set_cons_zero]; done) | (simp only [puts_cons, puts_nil, Act.put, List.setIfInBounds_toArray, List.set_cons_succ, List.set_cons_zero]; rfl)⟩
    clear H
    rintro u w ⟨c, HC, HCE, H, rfl⟩
    simp only [puts_cons, puts_nil, Act.put, List.setIfInBounds_toArray, List.set_cons_succ, List.set_cons_zero]
    rw [← HCE] at H
    clear HCE
    replace H := H.many_set (by rw [m_glen HD]; exact hk)
    go_wp2_with (first
      | go_skip
      | ((with_reducible refine at_box ?_); first | (refine wpList_box_H rfl rfl H rfl (by constructor) ?_; clear H; intro b w H))
      | ((with_reducible refine at_alloc ?_); first | (refine wpList_alloc_H rfl rfl H ?_; clear H; intro bR2 w H))
      | ((with_reducible refine at_load ?_); first | (refine wpList_load_H rfl rfl H rfl (by repeat constructor) ?_) | (refine wpList_loads_H rfl rfl H rfl (by repeat constructor) ?_))
      | ((with_reducible refine at_store ?_); first | (refine wpList_store_H rfl rfl H rfl rfl (by repeat constructor) ?_; clear H; intro w H)))
    refine bodyPost_ret (results_H rfl H rfl (by repeat constructor)) rfl ⟨⟨d.mem, ⟨d.gs.A, d.gs.c, d.gs.xs.set k c⟩, d.outs, d.pend⟩, by simp [BV.val], ?_, H.bare5 (.cons (by repeat constructor) (.cons (by repeat constructor) (.cons (by repeat constructor) (.cons (by repeat constructor) (.cons (by repeat constructor) .nil))))) rfl rfl⟩
    rw [HM.out, ← HD.out]; simp only [BV.m, gsOf, List.map_set]; rw [HC.out]
  · have HB : Hid (hasB g (B.gs.xs.length : Int) = false) := by show _ = _; simp [hasB]; omega
    have HM : Hid (withGuestM B.m g x.m = B.m) := by
      show withGuestM B.m g x.m = _
      have h : hasM B.m g = false := by simp [hasM, hasB, BV.m, gsOf]; omega
      unfold withGuestM; rw [h]; rfl
    have H := Hp.start W0
    go_enter Tryz.func38, Tryz.ntmps38
    go_wp2_with (first
      | go_skip
      | ((with_reducible refine at_box ?_); first | (refine wpList_box_H (cs := (barr B).toList) rfl rfl H rfl CellsOf.agg ?_; clear H; intro bB w H) | (refine wpList_box_H rfl rfl H rfl (by constructor) ?_; clear H; intro bX w H))
      | ((with_reducible refine at_alloc ?_); first | ((with_reducible refine at_dst 6 ?_); refine wpList_alloc_H rfl rfl H ?_; clear H; intro bR w H) | (refine wpList_alloc_H rfl rfl H ?_; clear H; intro bO w H))
      | ((with_reducible refine at_load ?_); first | (refine wpList_load_H rfl rfl H rfl (by repeat constructor) ?_) | (refine wpList_loads_H rfl rfl H rfl (by repeat constructor) ?_))
      | ((with_reducible refine at_store ?_); first | (refine wpList_store_H rfl rfl H rfl rfl (by repeat constructor) ?_; clear H; intro w H))
      | (go_at_call 113; refine (copyBare_c B _ (R.at_ H) Z).mono ?_; rintro e w ⟨d, rfl, x1, K⟩; have HD := Lib.hid x1; clear x1; replace H := (H.add_all K).bparts; clear K)
      | (go_at_call 133; refine (has_any _ _ _).mono ?_; rintro e w' ⟨he, hw⟩; subst hw; rw [HB.out] at he; subst he))
    refine bodyPost_ret (results_H rfl H rfl (by repeat constructor)) rfl ⟨d, rfl, ?_, H.bare5 (.cons (by repeat constructor) (.cons (by repeat constructor) (.cons (by repeat constructor) (.cons (by repeat constructor) (.cons (by repeat constructor) .nil))))) rfl rfl⟩
    rw [HM.out, HD.out]
end Go.Proofs.YtaafnenmdombiaaGreat
