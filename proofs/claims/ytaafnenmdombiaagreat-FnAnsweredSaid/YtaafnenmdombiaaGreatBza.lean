/- Contracts of BareInject, BareFlush and BareSet, of the program and of the reference. No condition but that the arguments lie in memory. -/
import Derived.Test.YtaafnenmdombiaaGreatBz
import Derived.Test.YtaafnenmdombiaaGreatDl
namespace Go.Proofs.YtaafnenmdombiaaGreat
set_option linter.unusedSimpArgs false
set_option linter.unusedVariables false
set_option linter.unusedSimpArgs false
set_option linter.unusedVariables false
open Go.RowKit
theorem list_set_same {α : Type} {l : List α} {k : Nat} {y : α} (h : l[k]? = some y) : l.set k y = l := by
  apply List.ext_getElem?
  intro i
  by_cases hi : k = i
  · subst hi; rw [List.getElem?_set_self (List.getElem?_eq_some_iff.1 h).1, h]
  · rw [List.getElem?_set_ne hi]
theorem ch_miss {m : MB} {g : Int} {c : Bool} {F : MG → MG} (h : chOkM m g c = false) : changedM m g c F = m := by unfold changedM; rw [h]; rfl
def injC (m : MB) (g n : Int) : Bool := postOkM (gAtM m g).pending n
def injF (m : MB) (g n : Int) : MG → MG := injectG (postM (gAtM m g).pending n)
set_option maxRecDepth 100000 in
set_option maxHeartbeats 4000000 in
theorem bareInject_c (B : BV) (g n : Int) (W0 : World) (R : BRd W0 B) (Z : BBig B) : Calls Tryz.prog 15 #[B.val, .int .i64 g, .int .i64 n] W0 fun e w' => ∃ d : BV, e = .returned (.tuple #[d.val, .bool (chOkM B.m g (injC B.m g n))]) ∧ d.m = changedM B.m g (injC B.m g n) (injF B.m g n) ∧ Hp W0 w' [.bare d] := by
  obtain ⟨pn, hpn⟩ : ∃ pn, pn = postM (gAtM B.m g).pending n := ⟨_, rfl⟩
  obtain ⟨ok, hok⟩ : ∃ ok, ok = injC B.m g n := ⟨_, rfl⟩
  have HPN : Hid (postM (gAtM B.m g).pending n = pn) := hpn.symm
  have HOK : Hid (postOkM (gAtM B.m g).pending n = ok) := hok.symm
  have HF : injF B.m g n = injectG pn := by unfold injF; rw [← hpn]
  rw [HF, ← hok]
  clear hpn hok HF
  have H := Hp.start W0
  go_enter Tryz.func15, Tryz.ntmps15
  go_wp2_with (first
    | go_skip
    | ((with_reducible refine at_box ?_); first | (refine wpList_box_H rfl rfl H rfl (by constructor) ?_; clear H; intro bB w H))
    | ((with_reducible refine at_alloc ?_); first | ((with_reducible refine at_dst 6 ?_); refine wpList_alloc_H rfl rfl H ?_; clear H; intro bR w H) | ((with_reducible refine at_dst 8 ?_); refine wpList_alloc_H rfl rfl H ?_; clear H; intro bX w H) | ((with_reducible refine at_dst 10 ?_); refine wpList_alloc_H rfl rfl H ?_; clear H; intro bP w H) | (refine wpList_alloc_H rfl rfl H ?_; clear H; intro b w H))
    | ((with_reducible refine at_load ?_); first | (refine wpList_load_H rfl rfl H rfl (by repeat constructor) ?_) | (refine wpList_loads_H rfl rfl H rfl (by repeat constructor) ?_))
    | ((with_reducible refine at_store ?_); first | (refine wpList_store_H rfl rfl H rfl rfl (by repeat constructor) ?_; clear H; intro w H))
    | (go_at_call 40; refine (guestAt_c B g _ (R.at_ H) Z).mono ?_; rintro e w ⟨x, rfl, x1, K⟩; have HX := Lib.hid (congrArg MG.pending x1); clear x1; replace H := H.add_all K; clear K)
    | (go_at_call 85; refine (postIrq_c x.pending n _).mono ?_; rintro e w ⟨he, K⟩; rw [show x.pending = (gAtM B.m g).pending from HX.out, HPN.out, HOK.out] at he; subst he; replace H := H.add_all K; clear K)
    | (go_at_call 71; refine (changed_c B g ok 86 Tryz.f86 Tryz.func86 (by kernel_rfl) #[.pointer (some ⟨bP, 0, none⟩)] (injectG pn) _ (R.at_ H) Z (by unfold injectG; exact Nat.le_trans (gAtM_size B.m g) Z) (fun x _ hb Rx Zx => bareInject1_c x pn bP _ Rx Zx ((H.rw_ (cs := [.int .i64 pn]) (by repeat constructor)).below_ hb))).mono ?_; rintro e w ⟨d, rfl, x1, K⟩; have HD := Lib.hid x1; clear x1; replace H := H.add_all K; clear K))
  refine bodyPost_ret (results_H2 rfl H rfl (by repeat constructor)) rfl ⟨d, rfl, HD.out, H.pick (.cons (by repeat constructor) .nil)⟩
set_option maxRecDepth 100000 in
set_option maxHeartbeats 4000000 in
theorem specBareInject_c (B : BV) (g n : Int) (W0 : World) (R : BRd W0 B) (Z : BBig B) : Calls Tryz.prog 16 #[B.val, .int .i64 g, .int .i64 n] W0 fun e w' => ∃ d : BV, e = .returned (.tuple #[d.val, .bool (chOkM B.m g (injC B.m g n))]) ∧ d.m = changedM B.m g (injC B.m g n) (injF B.m g n) ∧ Hp W0 w' [.bare d] := by
  have ho : chOkM B.m g (injC B.m g n) = ((bareOkM B.m && hasM B.m g) && injC B.m g n) := rfl
  cases e1 : (bareOkM B.m && hasM B.m g)
  case true =>
    rw [e1] at ho
    have hg : 0 ≤ g ∧ g < B.gs.xs.length := by simp only [Bool.and_eq_true] at e1; simpa [hasM, hasB, BV.m, gsOf] using e1.2
    obtain ⟨k, rfl⟩ := Int.eq_ofNat_of_zero_le hg.1
    have hk : k < B.gs.xs.length := by omega
    clear hg
    obtain ⟨pn, hpn⟩ : ∃ pn, pn = postM (gAtM B.m k).pending n := ⟨_, rfl⟩
    have HPN : Hid (postM (gAtM B.m k).pending n = pn) := hpn.symm
    have HF : Hid (injF B.m k n = injectG pn) := by show injF B.m k n = _; unfold injF; rw [← hpn]
    have HPS : Hid (injC B.m k n = false → pn = (gAtM B.m k).pending) := by show _ → _; intro h; rw [hpn]; unfold postM; rw [show postOkM (gAtM B.m k).pending n = false from h]; rfl
    clear hpn
    cases e2 : injC B.m k n
    all_goals
      rw [e2] at ho
      have HOK : Hid (postOkM (gAtM B.m k).pending n = _) := Lib.hid (show postOkM (gAtM B.m k).pending n = _ from e2)
      have HO := Lib.hid ho
      clear ho
      have H := Hp.start W0
      go_enter Tryz.func16, Tryz.ntmps16
      go_wp2_with (first
        | go_skip
        | ((with_reducible refine at_box ?_); first | (refine wpList_box_H rfl rfl H rfl (by constructor) ?_; clear H; intro bB w H))
        | ((with_reducible refine at_alloc ?_); first | ((with_reducible refine at_dst 6 ?_); refine wpList_alloc_H rfl rfl H ?_; clear H; intro bR w H) | (refine wpList_alloc_H rfl rfl H ?_; clear H; intro b w H))
        | ((with_reducible refine at_load ?_); first | (refine wpList_load_at rfl rfl d.gs (H.rdgsl (by repeat constructor)) rfl y HK.out (by first | exact rfl | exact (Nat.add_zero _).symm) rfl ?_) | (refine wpList_load_H rfl rfl H rfl (by repeat constructor) ?_) | (refine wpList_loads_H rfl rfl H rfl (by repeat constructor) ?_))
        | ((with_reducible refine at_store ?_); first | (refine wpList_store_el (enc := GV.cells) (sz := 15) rfl rfl H d.gs (by repeat constructor) g_len rfl rfl y ⟨y.prog, y.a, y.pc, y.written, y.live, y.ctl, pn, y.exit, y.halted, y.seen⟩ HK.out (by constructor) (by repeat constructor) (by exact rfl) (by exact rfl) (by exact rfl) ?_; clear H; intro w H) | (refine wpList_store_H rfl rfl H rfl rfl (by repeat constructor) ?_; clear H; intro w H))
        | ((with_reducible refine at_index ?_); first | (refine wpList_index_n rfl rfl d.gs (H.rdgsl (by repeat constructor)) rfl rfl rfl (by rw [m_glen HD]; exact hk) ?_))
        | (go_at_call 76; refine (l17Copy_c B _ (R.at_ H) Z).mono ?_; rintro e w ⟨d, rfl, x1, K⟩; have HD := Lib.hid x1; clear x1; have Zd := m_big HD Z; replace H := (H.add_all K); clear K; obtain ⟨y, hy⟩ : ∃ y, d.gs.xs[k]? = some y := ⟨_, List.getElem?_eq_getElem (by rw [m_glen HD]; exact hk)⟩; have HK := Lib.hid hy; clear hy; skip)
        | (go_at_call 77; refine (l19Is_c d k _ (H.brd (by repeat constructor)) Zd).mono ?_; rintro e w ⟨he, K⟩; rw [HD.out, e1] at he; subst he; replace H := H.add_all K; clear K; replace H := (H.take (e := .bare d) (by repeat constructor)).bparts)
        | (go_at_call 87; have HY : Hid (y.pending = (gAtM B.m k).pending) := (by show _ = _; have h := (gAtM_hit HK.out).1; rw [HD.out] at h; rw [h]; rfl); refine (specPostIrq_c y.pending n _).mono ?_; rintro e w ⟨he, K⟩; rw [HY.out, HPN.out, HOK.out] at he; subst he; replace H := H.add_all K; clear K))
      replace H := (H.take (e := .many En.gst d.gs.xs) (by repeat constructor)).gst_scal HK.out y.a y.pc y.ctl pn y.exit y.halted
      refine bodyPost_ret (results_H2 rfl H rfl (by repeat constructor)) rfl ⟨⟨d.mem, ⟨d.gs.A, d.gs.c, d.gs.xs.set k ⟨y.prog, y.a, y.pc, y.written, y.live, y.ctl, pn, y.exit, y.halted, y.seen⟩⟩, d.outs, d.pend⟩, by rw [HO.out]; simp [BV.val], ?_, H.bare5 (.cons (by repeat constructor) (.cons (by repeat constructor) (.cons (by repeat constructor) (.cons (by repeat constructor) (.cons (by repeat constructor) .nil))))) rfl rfl⟩
      first
        | (rw [ch_hit (by rw [HO.out]; rfl), HF.out, ← HD.out, wg_hit HK.out]; simp only [BV.m, gsOf, List.map_set]; rfl)
        | (rw [ch_miss (by rw [HO.out]; rfl)]
           have h1 := HPS.out e2
           have h2 := (gAtM_hit HK.out).1
           rw [HD.out] at h2
           rw [h1, h2]
           rw [show (⟨y.prog, y.a, y.pc, y.written, y.live, y.ctl, y.m.pending, y.exit, y.halted, y.seen⟩ : GV) = y from rfl, list_set_same HK.out]
           exact HD.out)
  all_goals
    rw [e1] at ho
    have HO := Lib.hid ho
    clear ho
    have H := Hp.start W0
    go_enter Tryz.func16, Tryz.ntmps16
    go_wp2_with (first
      | go_skip
      | ((with_reducible refine at_box ?_); first | (refine wpList_box_H rfl rfl H rfl (by constructor) ?_; clear H; intro bB w H))
      | ((with_reducible refine at_alloc ?_); first | ((with_reducible refine at_dst 6 ?_); refine wpList_alloc_H rfl rfl H ?_; clear H; intro bR w H) | (refine wpList_alloc_H rfl rfl H ?_; clear H; intro b w H))
      | ((with_reducible refine at_load ?_); first | (refine wpList_load_H rfl rfl H rfl (by repeat constructor) ?_) | (refine wpList_loads_H rfl rfl H rfl (by repeat constructor) ?_))
      | ((with_reducible refine at_store ?_); first | (refine wpList_store_H rfl rfl H rfl rfl (by repeat constructor) ?_; clear H; intro w H))
      | (go_at_call 76; refine (l17Copy_c B _ (R.at_ H) Z).mono ?_; rintro e w ⟨d, rfl, x1, K⟩; have HD := Lib.hid x1; clear x1; have Zd := m_big HD Z; replace H := (H.add_all K); clear K)
      | (go_at_call 77; refine (l19Is_c d g _ (H.brd (by repeat constructor)) Zd).mono ?_; rintro e w ⟨he, K⟩; rw [HD.out, e1] at he; subst he; replace H := H.add_all K; clear K))
    refine bodyPost_ret (results_H2 rfl H rfl (by repeat constructor)) rfl ⟨d, by rw [HO.out]; rfl, by unfold changedM; rw [HO.out]; exact HD.out, H.pick (.cons (by repeat constructor) .nil)⟩
end Go.Proofs.YtaafnenmdombiaaGreat
