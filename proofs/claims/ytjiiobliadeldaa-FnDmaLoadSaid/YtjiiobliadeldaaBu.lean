/- Contracts of the walk through an inner table, and of BareRead and BarePoke, of the program and of the reference. No condition but that the arguments lie in memory. -/
import Derived.Test.YtjiiobliadeldaaBt
import Derived.Test.YtjiiobliadeldaaBo
namespace Go.Proofs.Ytjiiobliadeldaa
set_option linter.unusedSimpArgs false
set_option linter.unusedVariables false
open Go.RowKit
def enoughM (r n : Int) : Bool := inB r 0 3 && inB n 0 3 && (bits .and .i64 r n == n)
def addrPageM (a : Int) : Int := if a < 0 then -1 else a / 4
def addrCellM (a : Int) : Int := if a < 0 then -1 else a % 4
def walkOkM (t : List Slot) (p n : Int) : Bool := !((slotAtM t p).page == -1) && enoughM (slotAtM t p).rights n && inB n 1 3
def walkPageM (t : List Slot) (p n : Int) : Int := if walkOkM t p n then (slotAtM t p).page else -1
set_option linter.unusedSimpArgs false in
set_option linter.unusedVariables false in
set_option maxRecDepth 100000 in
set_option maxHeartbeats 4000000 in
theorem rightsOk_c (r : Int) (w : World) : Calls Try.prog 112 #[.int .i64 r] w fun e w' => e = .returned (.bool (inB r 0 3)) ∧ w = w' := by
  go_enter Try.func112, Try.ntmps112
  go_wp2_with (go_at_call 75; refine (within_any _ _ _ _).mono ?_; rintro e w' ⟨rfl, rfl⟩)
  go_ret
  exact ⟨rfl, rfl⟩
set_option linter.unusedSimpArgs false in
set_option linter.unusedVariables false in
set_option maxRecDepth 100000 in
set_option maxHeartbeats 4000000 in
theorem enough_c (r n : Int) (W0 : World) : Calls Try.prog 101 #[.int .i64 r, .int .i64 n] W0 fun e w' => e = .returned (.bool (enoughM r n)) ∧ Hp W0 w' [] := by
  cases e1 : inB r 0 3 <;> cases e2 : inB n 0 3
  all_goals
    try (have hr : 0 ≤ r ∧ r ≤ 3 := by simpa [inB] using e1)
    try (have hn : 0 ≤ n ∧ n ≤ 3 := by simpa [inB] using e2)
    try obtain ⟨hr0, hr3⟩ := hr
    try obtain ⟨hn0, hn3⟩ := hn
    have H := Hp.start W0
    go_enter Try.func101, Try.ntmps101
    go_wp2_with (first
      | go_skip
      | ((with_reducible refine at_box ?_); first | (refine wpList_box_H rfl rfl H rfl (by first | exact CellsOf.agg | exact CellsOf.int | exact CellsOf.bool | exact CellsOf.slice | exact CellsOf.string | exact CellsOf.pointer | exact CellsOf.func) ?_; clear H; intro b w H))
      | ((with_reducible refine at_alloc ?_); first | (refine wpList_alloc_H rfl rfl H ?_; clear H; intro b w H))
      | ((with_reducible refine at_load ?_); first | (refine wpList_load_H rfl rfl H rfl (by repeat (first | exact LoadAt.here rfl | apply LoadAt.there)) ?_) | (refine wpList_loads_H rfl rfl H rfl (by repeat (first | (apply LoadsAt.here; repeat (first | exact GetsAt.nil | apply GetsAt.here | apply GetsAt.there)) | apply LoadsAt.there)) ?_))
      | ((with_reducible refine at_store ?_); first | (refine wpList_store_H rfl rfl H rfl rfl (by repeat (first | (apply StoreAt.here; (first | exact CellsOf.agg | exact CellsOf.int | exact CellsOf.bool | exact CellsOf.slice | exact CellsOf.string | exact CellsOf.pointer | exact CellsOf.func); (repeat (first | exact SetsAt.nil | apply SetsAt.here | apply SetsAt.there)); exact rfl; exact rfl) | apply StoreAt.there)) ?_; clear H; intro w H))
      | (go_at_call 112; refine (rightsOk_c _ _).mono ?_; rintro e w' ⟨he, hw⟩; subst hw; rw [e1] at he; subst he)
      | (go_at_call 112; refine (rightsOk_c _ _).mono ?_; rintro e w' ⟨he, hw⟩; subst hw; rw [e2] at he; subst he))
    all_goals (go_ret; exact ⟨ret_bool (by simp [enoughM, e1, e2]), H⟩)
set_option linter.unusedSimpArgs false in
set_option linter.unusedVariables false in
set_option maxRecDepth 100000 in
set_option maxHeartbeats 4000000 in
theorem addrPage_c (a : Int) (h : a ≤ 9223372036854775807) (h' : -9223372036854775808 ≤ a) (W0 : World) : Calls Try.prog 58 #[.int .i64 a] W0 fun e w' => e = .returned (.int .i64 (addrPageM a)) ∧ Hp W0 w' [] := by
  by_cases hn : a < 0
  all_goals
    have H := Hp.start W0
    go_enter Try.func58, Try.ntmps58
    go_wp2_with (first
      | go_skip
      | ((with_reducible refine at_box ?_); first | (refine wpList_box_H rfl rfl H rfl (by first | exact CellsOf.agg | exact CellsOf.int | exact CellsOf.bool | exact CellsOf.slice | exact CellsOf.string | exact CellsOf.pointer | exact CellsOf.func) ?_; clear H; intro b w H))
      | ((with_reducible refine at_alloc ?_); first | (refine wpList_alloc_H rfl rfl H ?_; clear H; intro b w H))
      | ((with_reducible refine at_load ?_); first | (refine wpList_load_H rfl rfl H rfl (by repeat (first | exact LoadAt.here rfl | apply LoadAt.there)) ?_) | (refine wpList_loads_H rfl rfl H rfl (by repeat (first | (apply LoadsAt.here; repeat (first | exact GetsAt.nil | apply GetsAt.here | apply GetsAt.there)) | apply LoadsAt.there)) ?_))
      | ((with_reducible refine at_store ?_); first | (refine wpList_store_H rfl rfl H rfl rfl (by repeat (first | (apply StoreAt.here; (first | exact CellsOf.agg | exact CellsOf.int | exact CellsOf.bool | exact CellsOf.slice | exact CellsOf.string | exact CellsOf.pointer | exact CellsOf.func); (repeat (first | exact SetsAt.nil | apply SetsAt.here | apply SetsAt.there)); exact rfl; exact rfl) | apply StoreAt.there)) ?_; clear H; intro w H)))
    go_ret
    exact ⟨ret_int (by unfold addrPageM; split <;> omega), H⟩
set_option linter.unusedSimpArgs false in
set_option linter.unusedVariables false in
set_option maxRecDepth 100000 in
set_option maxHeartbeats 4000000 in
theorem addrCell_c (a : Int) (h : a ≤ 9223372036854775807) (h' : -9223372036854775808 ≤ a) (W0 : World) : Calls Try.prog 63 #[.int .i64 a] W0 fun e w' => e = .returned (.int .i64 (addrCellM a)) ∧ Hp W0 w' [] := by
  by_cases hn : a < 0
  all_goals
    have H := Hp.start W0
    go_enter Try.func63, Try.ntmps63
    go_wp2_with (first
      | go_skip
      | ((with_reducible refine at_box ?_); first | (refine wpList_box_H rfl rfl H rfl (by first | exact CellsOf.agg | exact CellsOf.int | exact CellsOf.bool | exact CellsOf.slice | exact CellsOf.string | exact CellsOf.pointer | exact CellsOf.func) ?_; clear H; intro b w H))
      | ((with_reducible refine at_alloc ?_); first | (refine wpList_alloc_H rfl rfl H ?_; clear H; intro b w H))
      | ((with_reducible refine at_load ?_); first | (refine wpList_load_H rfl rfl H rfl (by repeat (first | exact LoadAt.here rfl | apply LoadAt.there)) ?_) | (refine wpList_loads_H rfl rfl H rfl (by repeat (first | (apply LoadsAt.here; repeat (first | exact GetsAt.nil | apply GetsAt.here | apply GetsAt.there)) | apply LoadsAt.there)) ?_))
      | ((with_reducible refine at_store ?_); first | (refine wpList_store_H rfl rfl H rfl rfl (by repeat (first | (apply StoreAt.here; (first | exact CellsOf.agg | exact CellsOf.int | exact CellsOf.bool | exact CellsOf.slice | exact CellsOf.string | exact CellsOf.pointer | exact CellsOf.func); (repeat (first | exact SetsAt.nil | apply SetsAt.here | apply SetsAt.there)); exact rfl; exact rfl) | apply StoreAt.there)) ?_; clear H; intro w H)))
    go_ret
    exact ⟨ret_int (by unfold addrCellM; split <;> omega), H⟩
set_option linter.unusedSimpArgs false in
set_option linter.unusedVariables false in
set_option maxRecDepth 100000 in
set_option maxHeartbeats 4000000 in
theorem walkInner_c (t : Sl Slot) (p n : Int) (W0 : World) (R : Rd Slot.cells 2 W0 t) (Z : t.xs.length ≤ 4194304) : Calls Try.prog 57 #[.slice t.A t.xs.length t.c, .int .i64 p, .int .i64 n] W0 fun e w' => e = .returned (.tuple #[.int .i64 (walkPageM t.xs p n), .bool (walkOkM t.xs p n)]) ∧ Hp W0 w' [] := by
  obtain ⟨s, hs⟩ : ∃ s, s = slotAtM t.xs p := ⟨_, rfl⟩
  have HS : Hid (slotAtM t.xs p = s) := hs.symm
  clear hs
  cases e1 : (s.page == -1) <;> cases e2 : enoughM s.rights n <;> cases e3 : inB n 1 3
  all_goals
    have hw : walkOkM t.xs p n = (!(s.page == -1) && enoughM s.rights n && inB n 1 3) := by unfold walkOkM; rw [HS.out]
    rw [e1, e2, e3] at hw
    have HW := Lib.hid hw
    clear hw
    have H := Hp.start W0
    go_enter Try.func57, Try.ntmps57
    go_wp2_with (first
      | go_skip
      | ((with_reducible refine at_box ?_); first | (refine wpList_box_H rfl rfl H rfl (by first | exact CellsOf.agg | exact CellsOf.int | exact CellsOf.bool | exact CellsOf.slice | exact CellsOf.string | exact CellsOf.pointer | exact CellsOf.func) ?_; clear H; intro b w H))
      | ((with_reducible refine at_alloc ?_); first | (refine wpList_alloc_H rfl rfl H ?_; clear H; intro b w H))
      | ((with_reducible refine at_load ?_); first | (refine wpList_load_H rfl rfl H rfl (by repeat (first | exact LoadAt.here rfl | apply LoadAt.there)) ?_) | (refine wpList_loads_H rfl rfl H rfl (by repeat (first | (apply LoadsAt.here; repeat (first | exact GetsAt.nil | apply GetsAt.here | apply GetsAt.there)) | apply LoadsAt.there)) ?_))
      | ((with_reducible refine at_store ?_); first | (refine wpList_store_H rfl rfl H rfl rfl (by repeat (first | (apply StoreAt.here; (first | exact CellsOf.agg | exact CellsOf.int | exact CellsOf.bool | exact CellsOf.slice | exact CellsOf.string | exact CellsOf.pointer | exact CellsOf.func); (repeat (first | exact SetsAt.nil | apply SetsAt.here | apply SetsAt.there)); exact rfl; exact rfl) | apply StoreAt.there)) ?_; clear H; intro w H))
      | (go_at_call 42; refine (slotAt_c t p _ (R.at_ H) Z).mono ?_; rintro e w ⟨he, K⟩; rw [HS.out] at he; subst he; replace H := H.add_all K; clear K)
      | (go_at_call 101; refine (enough_c _ _ _).mono ?_; rintro e w ⟨he, K⟩; rw [e2] at he; subst he; replace H := H.add_all K; clear K)
      | (go_at_call 75; refine (within_any _ _ _ _).mono ?_; rintro e w' ⟨he, hw⟩; subst hw; rw [e3] at he; subst he))
    all_goals (go_ret2; refine ⟨?_, H.pick .nil⟩; unfold walkPageM; rw [HW.out]; simp [HS.out])
def reachOkM (m : MB) (g a : Int) : Bool := bareOkM m && hasM m g && inB a 0 15
def readOkM (m : MB) (g a : Int) : Bool := reachOkM m g a && walkOkM (gAtM m g).live (addrPageM a) 1
def readM (m : MB) (g a : Int) : Int := if readOkM m g a then cellAtM m.memory (walkPageM (gAtM m g).live (addrPageM a) 1) (addrCellM a) else 0
theorem glive_big {B : BV} (Z : BBig B) (g : Int) : (gAtM B.m g).live.length ≤ 4194304 := by
  have h := gAtM_size B.m g
  have e : (gAtM B.m g).size = (gAtM B.m g).prog.length + (gAtM B.m g).written.length + (gAtM B.m g).live.length + (gAtM B.m g).seen.length := rfl
  unfold BBig at Z; omega
def pokeOkM (m : MB) (p c v : Int) : Bool := bareOkM m && hasB p 8 && hasB c 4 && inB v 0 99
def pokeM (m : MB) (p c v : Int) : MB := if pokeOkM m p c v then { m with memory := withCellM m.memory p c v } else m
theorem in8 (x : Int) : inB x 0 7 = hasB x 8 := hasB_in x 8
theorem in4 (x : Int) : inB x 0 3 = hasB x 4 := hasB_in x 4
def reachPM (m : MB) (g a n : Int) : Int := if reachOkM m g a then walkPageM (gAtM m g).live (addrPageM a) n else 0
def reachCM (m : MB) (g a : Int) : Int := if reachOkM m g a then addrCellM a else 0
def reachBM (m : MB) (g a n : Int) : Bool := reachOkM m g a && walkOkM (gAtM m g).live (addrPageM a) n
theorem results_3 {fn : Func} {p q r : Tmp} (h : fn.results = #[.tmp p, .tmp q, .tmp r]) (P : Program) (tmps : Array Value) (w : World) : (results fn tmps).run P w = .ok (.tuple #[tmps.getD p undef, tmps.getD q undef, tmps.getD r undef]) w := by
  simp [results, h, Sem.run_bind, Sem.run_pure]
set_option linter.unusedSimpArgs false in
set_option linter.unusedVariables false in
set_option maxRecDepth 100000 in
set_option maxHeartbeats 4000000 in
theorem reach_c (B : BV) (g a n : Int) (ha : a ≤ 9223372036854775807) (ha' : -9223372036854775808 ≤ a) (W0 : World) (R : BRd W0 B) (Z : BBig B) : Calls Try.prog 74 #[B.val, .int .i64 g, .int .i64 a, .int .i64 n] W0 fun e w' => e = .returned (.tuple #[.int .i64 (reachPM B.m g a n), .int .i64 (reachCM B.m g a), .bool (reachBM B.m g a n)]) ∧ Hp W0 w' [] := by
  obtain ⟨pg, hpg⟩ : ∃ pg, pg = addrPageM a := ⟨_, rfl⟩
  have HPG : Hid (addrPageM a = pg) := hpg.symm
  clear hpg
  cases e1 : bareOkM B.m <;> cases e2 : hasM B.m g <;> cases e3 : inB a 0 15
  all_goals
    have HO : Hid (reachOkM B.m g a = _) := Lib.hid (show reachOkM B.m g a = _ by unfold reachOkM; rw [e1, e2, e3])
    have H := Hp.start W0
    go_enter Try.func74, Try.ntmps74
    go_wp2_with (first
      | go_skip
      | ((with_reducible refine at_box ?_); first | (refine wpList_box_H rfl rfl H rfl (by first | exact CellsOf.agg | exact CellsOf.int | exact CellsOf.bool | exact CellsOf.slice | exact CellsOf.string | exact CellsOf.pointer | exact CellsOf.func) ?_; clear H; intro bB w H))
      | ((with_reducible refine at_alloc ?_); first | (refine wpList_alloc_H rfl rfl H ?_; clear H; intro bG w H))
      | ((with_reducible refine at_load ?_); first | (refine wpList_load_H rfl rfl H rfl (by repeat (first | exact LoadAt.here rfl | apply LoadAt.there)) ?_) | (refine wpList_loads_H rfl rfl H rfl (by repeat (first | (apply LoadsAt.here; repeat (first | exact GetsAt.nil | apply GetsAt.here | apply GetsAt.there)) | apply LoadsAt.there)) ?_))
      | ((with_reducible refine at_store ?_); first | (refine wpList_store_H rfl rfl H rfl rfl (by repeat (first | (apply StoreAt.here; (first | exact CellsOf.agg | exact CellsOf.int | exact CellsOf.bool | exact CellsOf.slice | exact CellsOf.string | exact CellsOf.pointer | exact CellsOf.func); (repeat (first | exact SetsAt.nil | apply SetsAt.here | apply SetsAt.there)); exact rfl; exact rfl) | apply StoreAt.there)) ?_; clear H; intro w H))
      | (go_at_call 48; refine (guestAt_c B g _ (R.at_ H) Z).mono ?_; rintro e w ⟨x, he, x1, K⟩; rw [e2] at he; subst he; have HX := Lib.hid x1; clear x1; have zx := (size_big HX.out (Nat.le_trans (gAtM_size _ _) Z)).2.2.1; replace H := H.add_all K; clear K)
      | (go_at_call 50; refine (bareOk_c B _ (R.at_ H) Z).mono ?_; rintro e w ⟨he, K⟩; rw [e1] at he; subst he; replace H := H.add_all K; clear K)
      | (go_at_call 75; refine (within_any _ _ _ _).mono ?_; rintro e w' ⟨he, hw⟩; subst hw; rw [e3] at he; subst he))
    first
      | (refine bodyPost_ret (results_3 rfl _ _ _) rfl ⟨by unfold reachPM reachCM reachBM; rw [HO.out]; rfl, H.pick .nil⟩; done)
      | skip
  go_region_held3 (fun w' => ∀ o, w'.cell? ⟨bG, o, none⟩ = (garr x)[o]?) (exact H.cells (by repeat (first | exact Take.head | apply Take.tail)))
    ((first | (go_at_call 58; refine (addrPage_c _ ha ha' _).mono ?_; rintro e w ⟨he, K⟩; rw [HPG.out] at he; subst he; first | replace H := H.add_all K | replace H := H.drew.add_all K; clear K) | (go_at_call 57; refine (walkInner_c x.live pg n _ (H.grd1 (by repeat (first | exact Take.head | apply Take.tail))).live zx).mono ?_; rintro e w ⟨he, K⟩; subst he; first | replace H := H.add_all K | replace H := H.drew.add_all K; clear K)))
  go_wp2_with (first
    | go_skip
    | ((with_reducible refine at_box ?_); first | (refine wpList_box_H rfl rfl H rfl (by first | exact CellsOf.agg | exact CellsOf.int | exact CellsOf.bool | exact CellsOf.slice | exact CellsOf.string | exact CellsOf.pointer | exact CellsOf.func) ?_; clear H; intro b w H))
    | ((with_reducible refine at_alloc ?_); first | (refine wpList_alloc_H rfl rfl H ?_; clear H; intro b w H))
    | ((with_reducible refine at_load ?_); first | (refine wpList_load_H rfl rfl H rfl (by repeat (first | exact LoadAt.here rfl | apply LoadAt.there)) ?_) | (refine wpList_loads_H rfl rfl H rfl (by repeat (first | (apply LoadsAt.here; repeat (first | exact GetsAt.nil | apply GetsAt.here | apply GetsAt.there)) | apply LoadsAt.there)) ?_))
    | ((with_reducible refine at_store ?_); first | (refine wpList_store_H rfl rfl H rfl rfl (by repeat (first | (apply StoreAt.here; (first | exact CellsOf.agg | exact CellsOf.int | exact CellsOf.bool | exact CellsOf.slice | exact CellsOf.string | exact CellsOf.pointer | exact CellsOf.func); (repeat (first | exact SetsAt.nil | apply SetsAt.here | apply SetsAt.there)); exact rfl; exact rfl) | apply StoreAt.there)) ?_; clear H; intro w H))
    | (go_at_call 63; refine (addrCell_c _ ha ha' _).mono ?_; rintro e w ⟨he, K⟩; subst he; first | replace H := H.add_all K | replace H := H.drew.add_all K; clear K))
  refine bodyPost_ret (results_3 rfl _ _ _) rfl ⟨?_, H.pick .nil⟩
  unfold reachPM reachCM reachBM; rw [HO.out, HPG.out, ← HX.out]; rfl
end Go.Proofs.Ytjiiobliadeldaa
