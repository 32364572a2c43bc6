/- Contracts of BareRead, of the program and of the reference. No condition but that the arguments lie in memory. -/
import Derived.Test.YtgeoilpmmdfemaaBu
namespace Go.Proofs.Ytgeoilpmmdfemaa
set_option linter.unusedSimpArgs false
set_option linter.unusedVariables false
open Go.RowKit
section
variable {P : Program} {ops : Array Oper} {S : World → Prop} {o : Oper} {a : Act} {w0 w : World} {L L' : List En} {α : Type} {enc : α → List Value} {sz e : Nat}
theorem yields_index_n (hw : Region.wanted o (yielded ops a.tmps) = true) {t : TypeId} {x ix : Operand} (ho : o.op = .indexAddr t x ix) {bytes : Nat} [hE : EI P t enc sz bytes e] (s : Sl α) (hR : ∀ w, S w → Rd enc sz w s) {k m : Nat} (hx : a.eval x = .slice s.A m s.c) (hi : a.eval ix = .int .i64 k)
    (hm : s.xs.length = m) (h1 : k < m) : YieldsIf P ops S o (.pointer (some ⟨ablk s.A, aoff s.A + k * sz, none⟩)) a := by
  subst hm
  refine .inl ⟨hw, fun w hS => ?_⟩
  obtain ⟨i, z, hi', hz, hsize, hby, hzs⟩ := hE.info.hi
  obtain ⟨hA, _⟩ := (hR w hS).addr (k := k) h1
  have hr : (Instr.indexAt t (.slice s.A s.xs.length s.c) (.int .i64 k)).run P w = .ok (.pointer (some ⟨ablk s.A, aoff s.A + k * sz, none⟩)) w := by
    rw [hA]
    simp [Instr.indexAt, asIntOf, run_underlying hE.info.ht, sizeOf, typeInfo, hi', hsize, h1, addj, ablk, aoff, go_sem]
  unfold execOp
  simp only [ho, hx, hi, Sem.run_bind, Sem.run_pure, Result.andThen_ok, hr]
theorem yields_load_rd (hw : Region.wanted o (yielded ops a.tmps) = true) {ty : TypeId} {x : Operand} (ho : o.op = .load ty x) (s : Sl α) (hR : ∀ w, S w → Rd enc sz w s) {q : Nat} (hx : a.eval x = .pointer (some ⟨ablk s.A, q, none⟩)) [hT : TyS P ty] {k : Nat} (y : α) (hk : s.xs[k]? = some y) {j : Nat} (hq : q = aoff s.A + k * sz + j) {v : Value} (hv : (enc y)[j]? = some v) :
    YieldsIf P ops S o v a := by
  subst hq
  refine .inl ⟨hw, fun w hS => ?_⟩
  have hr : (Instr.loadAt ty (a.eval x)).run P w = .ok v w := by rw [hx]; exact run_load_rd (hR w hS) hT hk hv
  unfold execOp
  simp only [ho, Sem.run_bind, Sem.run_pure, Result.andThen_ok, hr]
end
def atPM (m : MB) (g a n : Int) : Int := if reachOkM m g a then walkPageM (gAtM m g).live (addrPageM a) n else -1
theorem gs_m {B : BV} {k : Nat} {y : GV} (hy : B.gs.xs[k]? = some y) : gAtM B.m k = y.m := (gAtM_hit hy).1
set_option linter.unusedSimpArgs false in
set_option linter.unusedVariables false in
set_option maxRecDepth 100000 in
set_option maxHeartbeats 4000000 in
theorem l20At_c (B : BV) (g a n : Int) (ha : a ≤ 9223372036854775807) (ha' : -9223372036854775808 ≤ a) (W0 : World) (R : BRd W0 B) (Z : BBig B) : Calls Try.prog 129 #[B.val, .int .i64 g, .int .i64 a, .int .i64 n] W0 fun e w' => e = .returned (.tuple #[.int .i64 (atPM B.m g a n), .bool (reachBM B.m g a n)]) ∧ Hp W0 w' [] := by
  by_cases hok : reachOkM B.m g a = true
  · have h0 := hok
    unfold reachOkM at h0
    simp only [Bool.and_eq_true] at h0
    obtain ⟨⟨e1, e2⟩, e3⟩ := h0
    have e12 : (bareOkM B.m && hasM B.m g) = true := by rw [e1, e2]; rfl
    have hg : 0 ≤ g ∧ g < B.gs.xs.length := by simpa [hasM, hasB, BV.m, gsOf] using e2
    obtain ⟨k, rfl⟩ := Int.eq_ofNat_of_zero_le hg.1
    have hk : k < B.gs.xs.length := by omega
    obtain ⟨y, hy⟩ : ∃ y, B.gs.xs[k]? = some y := ⟨_, List.getElem?_eq_getElem hk⟩
    have HY := Lib.hid hy; clear hy hg
    have RY := Lib.hid (R.gsi y (List.mem_of_getElem? HY.out))
    have zy := (Z.gsi y (List.mem_of_getElem? HY.out)).2.2.1
    unfold big at zy
    have HO := Lib.hid hok
    clear hok
    have H := Hp.start W0
    go_enter Try.func129, Try.ntmps129
    go_wp2_with (first
      | go_skip
      | ((with_reducible refine at_box ?_); first | (refine wpList_box_H rfl rfl H rfl (by first | exact CellsOf.agg | exact CellsOf.int | exact CellsOf.bool | exact CellsOf.slice | exact CellsOf.string | exact CellsOf.pointer | exact CellsOf.func) ?_; clear H; intro bB w H))
      | ((with_reducible refine at_alloc ?_); first | (refine wpList_alloc_H rfl rfl H ?_; clear H; intro b w H))
      | ((with_reducible refine at_load ?_); first | (refine wpList_load_H rfl rfl H rfl (by repeat (first | exact LoadAt.here rfl | apply LoadAt.there)) ?_) | (refine wpList_loads_H rfl rfl H rfl (by repeat (first | (apply LoadsAt.here; repeat (first | exact GetsAt.nil | apply GetsAt.here | apply GetsAt.there)) | apply LoadsAt.there)) ?_))
      | ((with_reducible refine at_store ?_); first | (refine wpList_store_H rfl rfl H rfl rfl (by repeat (first | (apply StoreAt.here; (first | exact CellsOf.agg | exact CellsOf.int | exact CellsOf.bool | exact CellsOf.slice | exact CellsOf.string | exact CellsOf.pointer | exact CellsOf.func); (repeat (first | exact SetsAt.nil | apply SetsAt.here | apply SetsAt.there)); exact rfl; exact rfl) | apply StoreAt.there)) ?_; clear H; intro w H))
      | (go_at_call 136; refine (l19Is_c B _ _ (R.at_ H) Z).mono ?_; rintro e w ⟨he, K⟩; rw [e12] at he; subst he; replace H := H.add_all K; clear K)
      | (go_at_call 98; refine (in_any _ _ _ _).mono ?_; rintro e w' ⟨he, hw⟩; subst hw; rw [e3] at he; subst he))
    refine wp_cut (fun u a' w' => ∃ (u0 : Unit), Hp W0 w' [.box bB 33 (barr B).toList] ∧ a' = puts u [(19, .pointer (some ⟨bB, 1, none⟩)), (20, .slice B.gs.A B.gs.xs.length B.gs.c), (21, (.int .i64 k)), (22, (.pointer (some ⟨ablk B.gs.A, aoff B.gs.A + k * 15, none⟩))), (23, (.pointer (some ⟨ablk B.gs.A, aoff B.gs.A + k * 15 + 4, none⟩))), (24, (.slice y.live.A y.live.xs.length y.live.c)), (25, (.int .i64 a)), (26, (.int .i64 (addrPageM a))), (27, (.int .i64 n)), (28, (.tuple #[.int .i64 (walkPageM y.live.xs (addrPageM a) n), .bool (walkOkM y.live.xs (addrPageM a) n)])), (29, (.int .i64 (walkPageM y.live.xs (addrPageM a) n))), (30, (.bool (walkOkM y.live.xs (addrPageM a) n))), (8, (.int .i64 (walkPageM y.live.xs (addrPageM a) n))), (9, (.bool (walkOkM y.live.xs (addrPageM a) n)))]) ?_ ?_
    · refine wp_region_held (S := (fun w' => Rw w' bB 33 (barr B) ∧ Rd GV.cells 15 w' B.gs)) (by kernel_rfl) ?_
      replace H := H.drew
      refine takeH (i := 0) rfl .here (by kernel_rfl) (by kernel_rfl) (by kernel_rfl) (fun _ _ _ h => absurd h.1 (by simp)) (yields_val (v := .pointer (some ⟨bB, 1, none⟩)) rfl (fun _ => by go_simp)) ⟨H.rw_ (by repeat (first | exact Take.head | apply Take.tail)), R.gs.at_ H⟩ ?_
      (try simp only [Act.put, List.setIfInBounds_toArray, List.set_cons_succ, List.set_cons_zero])
      refine takeH (i := 1) rfl (.there .here) (by kernel_rfl) (by kernel_rfl) (by kernel_rfl) (fun _ _ _ h => absurd h.1 (by simp)) (yields_load1_R rfl rfl rfl (fun _ hS => hS.1) rfl) ⟨H.rw_ (by repeat (first | exact Take.head | apply Take.tail)), R.gs.at_ H⟩ ?_
      (try simp only [Act.put, List.setIfInBounds_toArray, List.set_cons_succ, List.set_cons_zero])
      refine takeH (i := 2) rfl (.there (.there .here)) (by kernel_rfl) (by kernel_rfl) (by kernel_rfl) (fun _ _ _ h => absurd h.1 (by simp)) (yields_val (v := (.int .i64 k)) rfl (fun _ => by go_simp)) ⟨H.rw_ (by repeat (first | exact Take.head | apply Take.tail)), R.gs.at_ H⟩ ?_
      (try simp only [Act.put, List.setIfInBounds_toArray, List.set_cons_succ, List.set_cons_zero])
      refine takeH (i := 3) rfl (.there (.there (.there .here))) (by kernel_rfl) (by kernel_rfl) (by kernel_rfl) (fun _ _ _ h => absurd h.1 (by simp)) (yields_index_n rfl rfl B.gs (fun _ hS => hS.2) rfl rfl rfl hk) ⟨H.rw_ (by repeat (first | exact Take.head | apply Take.tail)), R.gs.at_ H⟩ ?_
      (try simp only [Act.put, List.setIfInBounds_toArray, List.set_cons_succ, List.set_cons_zero])
      refine takeH (i := 4) rfl (.there (.there (.there (.there .here)))) (by kernel_rfl) (by kernel_rfl) (by kernel_rfl) (fun _ _ _ h => absurd h.1 (by simp)) (yields_val (v := (.pointer (some ⟨ablk B.gs.A, aoff B.gs.A + k * 15 + 4, none⟩))) rfl (fun _ => by go_simp)) ⟨H.rw_ (by repeat (first | exact Take.head | apply Take.tail)), R.gs.at_ H⟩ ?_
      (try simp only [Act.put, List.setIfInBounds_toArray, List.set_cons_succ, List.set_cons_zero])
      refine takeH (i := 5) rfl (.there (.there (.there (.there (.there .here))))) (by kernel_rfl) (by kernel_rfl) (by kernel_rfl) (fun _ _ _ h => absurd h.1 (by simp)) (yields_load_rd rfl rfl B.gs (fun _ hS => hS.2) rfl y HY.out (by first | exact rfl | exact (Nat.add_zero _).symm) rfl) ⟨H.rw_ (by repeat (first | exact Take.head | apply Take.tail)), R.gs.at_ H⟩ ?_
      (try simp only [Act.put, List.setIfInBounds_toArray, List.set_cons_succ, List.set_cons_zero])
      refine takeH (i := 6) rfl (.there (.there (.there (.there (.there (.there .here)))))) (by kernel_rfl) (by kernel_rfl) (by kernel_rfl) (fun _ _ _ h => absurd h.1 (by simp)) (yields_val (v := (.int .i64 a)) rfl (fun _ => by go_simp)) ⟨H.rw_ (by repeat (first | exact Take.head | apply Take.tail)), R.gs.at_ H⟩ ?_
      (try simp only [Act.put, List.setIfInBounds_toArray, List.set_cons_succ, List.set_cons_zero])
      refine takeH (i := 8) rfl (.there (.there (.there (.there (.there (.there (.there (.there .here)))))))) (by kernel_rfl) (by kernel_rfl) (by kernel_rfl) (fun _ _ _ h => absurd h.1 (by simp)) (yields_val (v := (.int .i64 n)) rfl (fun _ => by go_simp)) ⟨H.rw_ (by repeat (first | exact Take.head | apply Take.tail)), R.gs.at_ H⟩ ?_
      (try simp only [Act.put, List.setIfInBounds_toArray, List.set_cons_succ, List.set_cons_zero])
      refine anyH_1 (i := 7) (by kernel_rfl) ?_
      refine wpOp_at rfl (.there (.there (.there (.there (.there (.there (.there .here))))))) rfl ?_
      refine wp_call_H Try.f189 rfl rfl Try.func189 (by kernel_rfl) rfl rfl (val_H H (specAddrPage_c a ha ha' _)) ?_
      clear H
      rintro _ w ⟨rfl, H⟩
      refine ⟨⟨H.rw_ (by repeat (first | exact Take.head | apply Take.tail)), R.gs.at_ H⟩, ?_⟩
      (try simp only [Act.put, List.setIfInBounds_toArray, List.set_cons_succ, List.set_cons_zero])
      refine anyH_1 (i := 9) (by kernel_rfl) ?_
      refine wpOp_at rfl (.there (.there (.there (.there (.there (.there (.there (.there (.there .here))))))))) rfl ?_
      refine wp_call_H Try.f188 rfl rfl Try.func188 (by kernel_rfl) rfl rfl (val_H H (specWalkInner_c y.live (addrPageM a) n _ (RY.out.live.at_ H) zy)) ?_
      clear H
      rintro _ w ⟨rfl, H⟩
      refine ⟨⟨H.rw_ (by repeat (first | exact Take.head | apply Take.tail)), R.gs.at_ H⟩, ?_⟩
      (try simp only [Act.put, List.setIfInBounds_toArray, List.set_cons_succ, List.set_cons_zero])
      refine anyH_2 (i := 10) (j := 11) (by kernel_rfl) ?_ ?_
      · refine wpOp_at rfl (.there (.there (.there (.there (.there (.there (.there (.there (.there (.there .here)))))))))) rfl ?_
        refine wp_of_val (v := (.int .i64 (walkPageM y.live.xs (addrPageM a) n))) (by go_simp) ?_
        refine ⟨⟨H.rw_ (by repeat (first | exact Take.head | apply Take.tail)), R.gs.at_ H⟩, ?_⟩
        (try simp only [Act.put, List.setIfInBounds_toArray, List.set_cons_succ, List.set_cons_zero])
        refine anyH_1 (i := 11) (by kernel_rfl) ?_
        refine wpOp_at rfl (.there (.there (.there (.there (.there (.there (.there (.there (.there (.there (.there .here))))))))))) rfl ?_
        refine wp_of_val (v := (.bool (walkOkM y.live.xs (addrPageM a) n))) (by go_simp) ?_
        refine ⟨⟨H.rw_ (by repeat (first | exact Take.head | apply Take.tail)), R.gs.at_ H⟩, ?_⟩
        (try simp only [Act.put, List.setIfInBounds_toArray, List.set_cons_succ, List.set_cons_zero])
        refine anyH_1 (i := 12) (by kernel_rfl) ?_
        refine wpOp_at rfl (.there (.there (.there (.there (.there (.there (.there (.there (.there (.there (.there (.there .here)))))))))))) rfl ?_
        refine wp_assign_H rfl ?_
        refine ⟨⟨H.rw_ (by repeat (first | exact Take.head | apply Take.tail)), R.gs.at_ H⟩, ?_⟩
        (try simp only [Act.put, List.setIfInBounds_toArray, List.set_cons_succ, List.set_cons_zero])
        refine anyH_1 (i := 13) (by kernel_rfl) ?_
        refine wpOp_at rfl (.there (.there (.there (.there (.there (.there (.there (.there (.there (.there (.there (.there (.there .here))))))))))))) rfl ?_
        refine wp_assign_H rfl ?_
        refine ⟨⟨H.rw_ (by repeat (first | exact Take.head | apply Take.tail)), R.gs.at_ H⟩, ?_⟩
        (try simp only [Act.put, List.setIfInBounds_toArray, List.set_cons_succ, List.set_cons_zero])
        refine wpAnyH_done (by kernel_rfl) ?_ _
        exact ⟨rfl, (), H.pick (.cons (by repeat (first | exact Take.head | apply Take.tail)) .nil), by first | (simp only [puts_cons, puts_nil, Act.put, List.setIfInBounds_toArray, List.set_cons_succ, List.set_cons_zero]; done) | (simp only [puts_cons, puts_nil, Act.put, List.setIfInBounds_toArray, List.set_cons_succ, List.set_cons_zero]; rfl)⟩
      · refine wpOp_at rfl (.there (.there (.there (.there (.there (.there (.there (.there (.there (.there (.there .here))))))))))) rfl ?_
        refine wp_of_val (v := (.bool (walkOkM y.live.xs (addrPageM a) n))) (by go_simp) ?_
        refine ⟨⟨H.rw_ (by repeat (first | exact Take.head | apply Take.tail)), R.gs.at_ H⟩, ?_⟩
        (try simp only [Act.put, List.setIfInBounds_toArray, List.set_cons_succ, List.set_cons_zero])
        refine anyH_1 (i := 10) (by kernel_rfl) ?_
        refine wpOp_at rfl (.there (.there (.there (.there (.there (.there (.there (.there (.there (.there .here)))))))))) rfl ?_
        refine wp_of_val (v := (.int .i64 (walkPageM y.live.xs (addrPageM a) n))) (by go_simp) ?_
        refine ⟨⟨H.rw_ (by repeat (first | exact Take.head | apply Take.tail)), R.gs.at_ H⟩, ?_⟩
        (try simp only [Act.put, List.setIfInBounds_toArray, List.set_cons_succ, List.set_cons_zero])
        refine anyH_1 (i := 12) (by kernel_rfl) ?_
        refine wpOp_at rfl (.there (.there (.there (.there (.there (.there (.there (.there (.there (.there (.there (.there .here)))))))))))) rfl ?_
        refine wp_assign_H rfl ?_
        refine ⟨⟨H.rw_ (by repeat (first | exact Take.head | apply Take.tail)), R.gs.at_ H⟩, ?_⟩
        (try simp only [Act.put, List.setIfInBounds_toArray, List.set_cons_succ, List.set_cons_zero])
        refine anyH_1 (i := 13) (by kernel_rfl) ?_
        refine wpOp_at rfl (.there (.there (.there (.there (.there (.there (.there (.there (.there (.there (.there (.there (.there .here))))))))))))) rfl ?_
        refine wp_assign_H rfl ?_
        refine ⟨⟨H.rw_ (by repeat (first | exact Take.head | apply Take.tail)), R.gs.at_ H⟩, ?_⟩
        (try simp only [Act.put, List.setIfInBounds_toArray, List.set_cons_succ, List.set_cons_zero])
        refine wpAnyH_done (by kernel_rfl) ?_ _
        exact ⟨rfl, (), H.pick (.cons (by repeat (first | exact Take.head | apply Take.tail)) .nil), by first | (simp only [puts_cons, puts_nil, Act.put, List.setIfInBounds_toArray, List.set_cons_succ, List.set_cons_zero]; done) | (simp only [puts_cons, puts_nil, Act.put, List.setIfInBounds_toArray, List.set_cons_succ, List.set_cons_zero]; rfl)⟩
    clear H
    rintro u w ⟨u0, H, rfl⟩
    simp only [puts_cons, puts_nil, Act.put, List.setIfInBounds_toArray, List.set_cons_succ, List.set_cons_zero]
    go_wp2_with (first
      | go_skip
      | ((with_reducible refine at_box ?_); first | (refine wpList_box_H rfl rfl H rfl (by first | exact CellsOf.agg | exact CellsOf.int | exact CellsOf.bool | exact CellsOf.slice | exact CellsOf.string | exact CellsOf.pointer | exact CellsOf.func) ?_; clear H; intro b w H))
      | ((with_reducible refine at_alloc ?_); first | (refine wpList_alloc_H rfl rfl H ?_; clear H; intro b w H))
      | ((with_reducible refine at_load ?_); first | (refine wpList_load_H rfl rfl H rfl (by repeat (first | exact LoadAt.here rfl | apply LoadAt.there)) ?_) | (refine wpList_loads_H rfl rfl H rfl (by repeat (first | (apply LoadsAt.here; repeat (first | exact GetsAt.nil | apply GetsAt.here | apply GetsAt.there)) | apply LoadsAt.there)) ?_))
      | ((with_reducible refine at_store ?_); first | (refine wpList_store_H rfl rfl H rfl rfl (by repeat (first | (apply StoreAt.here; (first | exact CellsOf.agg | exact CellsOf.int | exact CellsOf.bool | exact CellsOf.slice | exact CellsOf.string | exact CellsOf.pointer | exact CellsOf.func); (repeat (first | exact SetsAt.nil | apply SetsAt.here | apply SetsAt.there)); exact rfl; exact rfl) | apply StoreAt.there)) ?_; clear H; intro w H)))
    go_ret2
    refine ⟨?_, H.pick .nil⟩
    unfold atPM reachBM; rw [HO.out, gs_m HY.out]; rfl
  · have hok' : reachOkM B.m g a = false := by simpa using hok
    have HO := Lib.hid hok'
    clear hok
    cases e12 : (bareOkM B.m && hasM B.m g) <;> cases e3 : inB a 0 15
    case true.true => exfalso; unfold reachOkM at hok'; rw [e12, e3] at hok'; exact absurd hok' (by decide)
    all_goals
      clear hok'
      have H := Hp.start W0
      go_enter Try.func129, Try.ntmps129
      go_wp2_with (first
        | go_skip
        | ((with_reducible refine at_box ?_); first | (refine wpList_box_H rfl rfl H rfl (by first | exact CellsOf.agg | exact CellsOf.int | exact CellsOf.bool | exact CellsOf.slice | exact CellsOf.string | exact CellsOf.pointer | exact CellsOf.func) ?_; clear H; intro bB w H))
        | ((with_reducible refine at_alloc ?_); first | (refine wpList_alloc_H rfl rfl H ?_; clear H; intro b w H))
        | ((with_reducible refine at_load ?_); first | (refine wpList_load_H rfl rfl H rfl (by repeat (first | exact LoadAt.here rfl | apply LoadAt.there)) ?_) | (refine wpList_loads_H rfl rfl H rfl (by repeat (first | (apply LoadsAt.here; repeat (first | exact GetsAt.nil | apply GetsAt.here | apply GetsAt.there)) | apply LoadsAt.there)) ?_))
        | ((with_reducible refine at_store ?_); first | (refine wpList_store_H rfl rfl H rfl rfl (by repeat (first | (apply StoreAt.here; (first | exact CellsOf.agg | exact CellsOf.int | exact CellsOf.bool | exact CellsOf.slice | exact CellsOf.string | exact CellsOf.pointer | exact CellsOf.func); (repeat (first | exact SetsAt.nil | apply SetsAt.here | apply SetsAt.there)); exact rfl; exact rfl) | apply StoreAt.there)) ?_; clear H; intro w H))
        | (go_at_call 136; refine (l19Is_c B _ _ (R.at_ H) Z).mono ?_; rintro e w ⟨he, K⟩; rw [e12] at he; subst he; replace H := H.add_all K; clear K)
        | (go_at_call 98; refine (in_any _ _ _ _).mono ?_; rintro e w' ⟨he, hw⟩; subst hw; rw [e3] at he; subst he))
      go_ret2
      refine ⟨?_, H.pick .nil⟩
      unfold atPM reachBM; rw [HO.out]; rfl
set_option linter.unusedSimpArgs false in
set_option linter.unusedVariables false in
set_option maxRecDepth 100000 in
set_option maxHeartbeats 4000000 in
theorem bareRead_c (B : BV) (g a : Int) (ha : a ≤ 9223372036854775807) (ha' : -9223372036854775808 ≤ a) (W0 : World) (R : BRd W0 B) (Z : BBig B) : Calls Try.prog 60 #[B.val, .int .i64 g, .int .i64 a] W0 fun e w' => e = .returned (.tuple #[.int .i64 (readM B.m g a), .bool (readOkM B.m g a)]) ∧ Hp W0 w' [] := by
  have hrd : readOkM B.m g a = reachBM B.m g a 1 := rfl
  obtain ⟨pg, hpg⟩ : ∃ pg, pg = reachPM B.m g a 1 := ⟨_, rfl⟩
  have HP : Hid (reachPM B.m g a 1 = pg) := hpg.symm
  obtain ⟨cl, hcl⟩ : ∃ cl, cl = reachCM B.m g a := ⟨_, rfl⟩
  have HC : Hid (reachCM B.m g a = cl) := hcl.symm
  clear hpg hcl
  cases e1 : reachBM B.m g a 1
  · rw [e1] at hrd
    have HR := Lib.hid hrd; clear hrd
    have H := Hp.start W0
    go_enter Try.func60, Try.ntmps60
    go_wp2_with (first
      | go_skip
      | ((with_reducible refine at_box ?_); first | (refine wpList_box_H rfl rfl H rfl (by first | exact CellsOf.agg | exact CellsOf.int | exact CellsOf.bool | exact CellsOf.slice | exact CellsOf.string | exact CellsOf.pointer | exact CellsOf.func) ?_; clear H; intro bB w H))
      | ((with_reducible refine at_alloc ?_); first | (refine wpList_alloc_H rfl rfl H ?_; clear H; intro b w H))
      | ((with_reducible refine at_load ?_); first | (refine wpList_load_H rfl rfl H rfl (by repeat (first | exact LoadAt.here rfl | apply LoadAt.there)) ?_) | (refine wpList_loads_H rfl rfl H rfl (by repeat (first | (apply LoadsAt.here; repeat (first | exact GetsAt.nil | apply GetsAt.here | apply GetsAt.there)) | apply LoadsAt.there)) ?_))
      | ((with_reducible refine at_store ?_); first | (refine wpList_store_H rfl rfl H rfl rfl (by repeat (first | (apply StoreAt.here; (first | exact CellsOf.agg | exact CellsOf.int | exact CellsOf.bool | exact CellsOf.slice | exact CellsOf.string | exact CellsOf.pointer | exact CellsOf.func); (repeat (first | exact SetsAt.nil | apply SetsAt.here | apply SetsAt.there)); exact rfl; exact rfl) | apply StoreAt.there)) ?_; clear H; intro w H))
      | (go_at_call 132; refine (reach_c B g a 1 ha ha' _ (R.at_ H) Z).mono ?_; rintro e w ⟨he, K⟩; rw [e1, HP.out, HC.out] at he; subst he; replace H := H.add_all K; clear K))
    go_ret2
    refine ⟨?_, H.pick .nil⟩
    unfold readM; rw [HR.out]; rfl
  · rw [e1] at hrd
    have HR := Lib.hid hrd; clear hrd
    have hro : reachOkM B.m g a = true := by unfold reachBM at e1; simp only [Bool.and_eq_true] at e1; exact e1.1
    have HRO := Lib.hid hro; clear hro
    have H := Hp.start W0
    go_enter Try.func60, Try.ntmps60
    go_wp2_with (first
      | go_skip
      | ((with_reducible refine at_box ?_); first | (refine wpList_box_H rfl rfl H rfl (by first | exact CellsOf.agg | exact CellsOf.int | exact CellsOf.bool | exact CellsOf.slice | exact CellsOf.string | exact CellsOf.pointer | exact CellsOf.func) ?_; clear H; intro bB w H))
      | ((with_reducible refine at_alloc ?_); first | (refine wpList_alloc_H rfl rfl H ?_; clear H; intro b w H))
      | ((with_reducible refine at_load ?_); first | (refine wpList_load_H rfl rfl H rfl (by repeat (first | exact LoadAt.here rfl | apply LoadAt.there)) ?_) | (refine wpList_loads_H rfl rfl H rfl (by repeat (first | (apply LoadsAt.here; repeat (first | exact GetsAt.nil | apply GetsAt.here | apply GetsAt.there)) | apply LoadsAt.there)) ?_))
      | ((with_reducible refine at_store ?_); first | (refine wpList_store_H rfl rfl H rfl rfl (by repeat (first | (apply StoreAt.here; (first | exact CellsOf.agg | exact CellsOf.int | exact CellsOf.bool | exact CellsOf.slice | exact CellsOf.string | exact CellsOf.pointer | exact CellsOf.func); (repeat (first | exact SetsAt.nil | apply SetsAt.here | apply SetsAt.there)); exact rfl; exact rfl) | apply StoreAt.there)) ?_; clear H; intro w H))
      | (go_at_call 132; refine (reach_c B g a 1 ha ha' _ (R.at_ H) Z).mono ?_; rintro e w ⟨he, K⟩; rw [e1, HP.out, HC.out] at he; subst he; replace H := H.add_all K; clear K)
      | (go_at_call 133; refine (cellAt_c B.mem pg cl _ (R.mem.at_ H) (fun x hx => (R.memi x hx).at_ H) Z.mem Z.memi).mono ?_; rintro e w ⟨he, K⟩; subst he; replace H := H.add_all K; clear K))
    go_ret2
    refine ⟨?_, H.pick .nil⟩
    unfold readM; rw [HR.out, ← HP.out, ← HC.out]; unfold reachPM reachCM; rw [HRO.out]; rfl
set_option linter.unusedSimpArgs false in
set_option linter.unusedVariables false in
set_option maxRecDepth 100000 in
set_option maxHeartbeats 4000000 in
theorem specBareRead_c (B : BV) (g a : Int) (ha : a ≤ 9223372036854775807) (ha' : -9223372036854775808 ≤ a) (W0 : World) (R : BRd W0 B) (Z : BBig B) : Calls Try.prog 59 #[B.val, .int .i64 g, .int .i64 a] W0 fun e w' => e = .returned (.tuple #[.int .i64 (readM B.m g a), .bool (readOkM B.m g a)]) ∧ Hp W0 w' [] := by
  have hrd : readOkM B.m g a = reachBM B.m g a 1 := rfl
  obtain ⟨pg, hpg⟩ : ∃ pg, pg = atPM B.m g a 1 := ⟨_, rfl⟩
  have HP : Hid (atPM B.m g a 1 = pg) := hpg.symm
  obtain ⟨cl, hcl⟩ : ∃ cl, cl = addrCellM a := ⟨_, rfl⟩
  have HC : Hid (addrCellM a = cl) := hcl.symm
  clear hpg hcl
  cases e1 : reachBM B.m g a 1
  · rw [e1] at hrd
    have HR := Lib.hid hrd; clear hrd
    have H := Hp.start W0
    go_enter Try.func59, Try.ntmps59
    go_wp2_with (first
      | go_skip
      | ((with_reducible refine at_box ?_); first | (refine wpList_box_H rfl rfl H rfl (by first | exact CellsOf.agg | exact CellsOf.int | exact CellsOf.bool | exact CellsOf.slice | exact CellsOf.string | exact CellsOf.pointer | exact CellsOf.func) ?_; clear H; intro bB w H))
      | ((with_reducible refine at_alloc ?_); first | (refine wpList_alloc_H rfl rfl H ?_; clear H; intro b w H))
      | ((with_reducible refine at_load ?_); first | (refine wpList_load_H rfl rfl H rfl (by repeat (first | exact LoadAt.here rfl | apply LoadAt.there)) ?_) | (refine wpList_loads_H rfl rfl H rfl (by repeat (first | (apply LoadsAt.here; repeat (first | exact GetsAt.nil | apply GetsAt.here | apply GetsAt.there)) | apply LoadsAt.there)) ?_))
      | ((with_reducible refine at_store ?_); first | (refine wpList_store_H rfl rfl H rfl rfl (by repeat (first | (apply StoreAt.here; (first | exact CellsOf.agg | exact CellsOf.int | exact CellsOf.bool | exact CellsOf.slice | exact CellsOf.string | exact CellsOf.pointer | exact CellsOf.func); (repeat (first | exact SetsAt.nil | apply SetsAt.here | apply SetsAt.there)); exact rfl; exact rfl) | apply StoreAt.there)) ?_; clear H; intro w H))
      | (go_at_call 129; refine (l20At_c B g a 1 ha ha' _ (R.at_ H) Z).mono ?_; rintro e w ⟨he, K⟩; rw [e1, HP.out] at he; subst he; replace H := H.add_all K; clear K))
    go_ret2
    refine ⟨?_, H.pick .nil⟩
    unfold readM; rw [HR.out]; rfl
  · rw [e1] at hrd
    have HR := Lib.hid hrd; clear hrd
    have hro : reachOkM B.m g a = true := by unfold reachBM at e1; simp only [Bool.and_eq_true] at e1; exact e1.1
    have HRO := Lib.hid hro; clear hro
    have H := Hp.start W0
    go_enter Try.func59, Try.ntmps59
    go_wp2_with (first
      | go_skip
      | ((with_reducible refine at_box ?_); first | (refine wpList_box_H rfl rfl H rfl (by first | exact CellsOf.agg | exact CellsOf.int | exact CellsOf.bool | exact CellsOf.slice | exact CellsOf.string | exact CellsOf.pointer | exact CellsOf.func) ?_; clear H; intro bB w H))
      | ((with_reducible refine at_alloc ?_); first | (refine wpList_alloc_H rfl rfl H ?_; clear H; intro b w H))
      | ((with_reducible refine at_load ?_); first | (refine wpList_load_H rfl rfl H rfl (by repeat (first | exact LoadAt.here rfl | apply LoadAt.there)) ?_) | (refine wpList_loads_H rfl rfl H rfl (by repeat (first | (apply LoadsAt.here; repeat (first | exact GetsAt.nil | apply GetsAt.here | apply GetsAt.there)) | apply LoadsAt.there)) ?_))
      | ((with_reducible refine at_store ?_); first | (refine wpList_store_H rfl rfl H rfl rfl (by repeat (first | (apply StoreAt.here; (first | exact CellsOf.agg | exact CellsOf.int | exact CellsOf.bool | exact CellsOf.slice | exact CellsOf.string | exact CellsOf.pointer | exact CellsOf.func); (repeat (first | exact SetsAt.nil | apply SetsAt.here | apply SetsAt.there)); exact rfl; exact rfl) | apply StoreAt.there)) ?_; clear H; intro w H))
      | (go_at_call 129; refine (l20At_c B g a 1 ha ha' _ (R.at_ H) Z).mono ?_; rintro e w ⟨he, K⟩; rw [e1, HP.out] at he; subst he; replace H := H.add_all K; clear K))
    go_region_held3 (fun w' => ∀ o, w'.cell? ⟨bB, o, none⟩ = (barr B)[o]?) (exact H.cells (by repeat (first | exact Take.head | apply Take.tail)))
      ((first | (go_at_call 131; refine (specAddrCell_c _ ha ha' _).mono ?_; rintro e w ⟨he, K⟩; rw [HC.out] at he; subst he; first | replace H := H.add_all K | replace H := H.drew.add_all K; clear K) | (go_at_call 130; refine (specCellAt_c B.mem pg cl _ (R.mem.at_ H) (fun x hx => (R.memi x hx).at_ H) Z.mem Z.memi).mono ?_; rintro e w ⟨he, K⟩; subst he; first | replace H := H.add_all K | replace H := H.drew.add_all K; clear K)))
    go_wp2_with (first
      | go_skip
      | ((with_reducible refine at_box ?_); first | (refine wpList_box_H rfl rfl H rfl (by first | exact CellsOf.agg | exact CellsOf.int | exact CellsOf.bool | exact CellsOf.slice | exact CellsOf.string | exact CellsOf.pointer | exact CellsOf.func) ?_; clear H; intro b w H))
      | ((with_reducible refine at_alloc ?_); first | (refine wpList_alloc_H rfl rfl H ?_; clear H; intro b w H))
      | ((with_reducible refine at_load ?_); first | (refine wpList_load_H rfl rfl H rfl (by repeat (first | exact LoadAt.here rfl | apply LoadAt.there)) ?_) | (refine wpList_loads_H rfl rfl H rfl (by repeat (first | (apply LoadsAt.here; repeat (first | exact GetsAt.nil | apply GetsAt.here | apply GetsAt.there)) | apply LoadsAt.there)) ?_))
      | ((with_reducible refine at_store ?_); first | (refine wpList_store_H rfl rfl H rfl rfl (by repeat (first | (apply StoreAt.here; (first | exact CellsOf.agg | exact CellsOf.int | exact CellsOf.bool | exact CellsOf.slice | exact CellsOf.string | exact CellsOf.pointer | exact CellsOf.func); (repeat (first | exact SetsAt.nil | apply SetsAt.here | apply SetsAt.there)); exact rfl; exact rfl) | apply StoreAt.there)) ?_; clear H; intro w H)))
    go_ret2
    refine ⟨?_, H.pick .nil⟩
    unfold readM; rw [HR.out, ← HP.out, ← HC.out]; unfold atPM; rw [HRO.out]; rfl
end Go.Proofs.Ytgeoilpmmdfemaa
