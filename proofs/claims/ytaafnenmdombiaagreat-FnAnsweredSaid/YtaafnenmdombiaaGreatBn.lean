/- Contracts of BareNew, of the program and of the reference. No condition but that the argument lies in memory. -/
import Derived.Maps.RangeWalk
import Derived.Test.YtaafnenmdombiaaGreatMn
import Derived.Test.YtaafnenmdombiaaGreatDl
namespace Go.Proofs.YtaafnenmdombiaaGreat
set_option linter.unusedSimpArgs false
set_option linter.unusedVariables false
set_option linter.unusedSimpArgs false
set_option linter.unusedVariables false
open Go.RowKit
def bareNewM (ps : List (List Ins)) : MB := ⟨List.replicate 8 [0, 0, 0, 0], (ps.take 2).map guestNewM, [], 0⟩
section
variable {P : Program} {o : Oper} {a : Act} {w0 w : World} {L : List En} {Q : Go.Exit → Act → World → Prop} {K : Act → World → Prop} {α : Type} {enc : α → List Value} {sz bytes e : Nat}
/-- A slice of one element is made, in a region that draws. -/
theorem wp_one_H {t : TypeId} {x : Operand} (ho : o.op = .buildSlice t 1 #[(0, x)]) (H : Hp w0 w L) [hE : EI P t enc sz bytes e] {zc : List Value} [hZ : TyZ P e zc] (y : α) {v : Value} {cs : List Value} (hx : a.eval x = v) (hv : CellsOf v cs) (he : enc y = cs) (hsm : sz ≤ 2 ^ 24)
    (h : ∀ b w', Hp w0 w' (.sl enc sz e ⟨some ⟨b, 0, none⟩, 1, [y]⟩ :: L) → K (a.put o.dst (.slice (some ⟨b, 0, none⟩) 1 1)) w') : o.wp P a w K Q := by
  subst he
  have h1 := fill_one (cur := (Array.range ([y].length * sz)).map (zc.toArray[· % zc.toArray.size]!)) hv.eq (hE.info.henc y) hE.info.hsz (by simp)
  have hf : Instr.fill (fun i => some (i * sz, sz)) ((Array.range (1 * sz)).map (zc.toArray[· % zc.toArray.size]!)) ((#[(0, x)] : Array (Nat × Operand)).map fun (i, x) => (i, a.eval x)).toList = some ([y].flatMap enc).toArray := by simpa [hx] using h1
  obtain ⟨i, z, hi, hz, hsize, hby, hzs⟩ := hE.info.hi
  have hzc : z.cells = zc.toArray := by
    have h := hZ.zero
    rw [hi] at h
    simp only [Option.bind_some, hz, Option.map_some, Option.some.injEq] at h
    rw [← h]
  have hr : (Instr.buildSlice t 1 ((#[(0, x)] : Array (Nat × Operand)).map fun (i, x) => (i, a.eval x))).run P w = .ok (.slice (some ⟨w.heap.size, 0, none⟩) 1 1) (w.alloc (.cells ([y].flatMap enc).toArray e)) := by
    rw [← hzc] at hf
    have := hE.info.hsz
    exact run_buildSlice w t e 1 _ _ i z hE.info.ht hi hz (by rw [hsize]; omega) (by rw [hsize]; omega) (by rw [hsize]; exact hf)
  unfold Oper.wp execOp
  simp only [ho, Sem.run_bind, Sem.run_pure, Result.andThen_ok, hr]
  refine h _ _ (H.add_sl ?_ ((Below.refl _ _).alloc (Nat.le_refl _) _))
  exact own_new w ([y].flatMap enc).toArray 1 [y] (Nat.le_refl _) (by simp) (by simp [hE.info.henc]) rfl (by simp [maxLen])
theorem Hp.nil_sl {α : Type} {enc : α → List Value} {sz e : Nat} (H : Hp w0 w L) : Hp w0 w (.sl enc sz e ⟨none, 0, []⟩ :: L) :=
  H.add (Below.refl _ _) (Own.none_ _) (by simp [En.sl, Sl.blk]) (by simp [En.sl, Sl.blk])
end
section
variable {P : Program} {ops : Array Oper} {S : World → Prop} {o : Oper} {a : Act} {w0 w : World} {L L' : List En} {α : Type} {enc : α → List Value} {sz e : Nat}
theorem yields_index_nb (hw : Region.wanted o (yielded ops a.tmps) = true) {t : TypeId} {x ix : Operand} (ho : o.op = .indexAddr t x ix) {bytes : Nat} [hE : EI P t enc sz bytes e] (s : Sl α) (hR : ∀ w, S w → Rd enc sz w s) {k m : Nat} (hx : a.eval x = .slice s.A m s.c) (hi : a.eval ix = .int .i64 k)
    (hm : s.xs.length = m) (h1 : k < m) : YieldsIf P ops S o (.pointer (some ⟨ablk s.A, aoff s.A + k * sz, none⟩)) a := by
  subst hm
  refine .inl ⟨hw, fun w hS => ?_⟩
  obtain ⟨i, z, hi', hz, hsize, hby, hzs⟩ := hE.info.hi
  obtain ⟨hA, _⟩ := (hR w hS).addr (k := k) h1
  have hr : (Instr.indexAt t (.slice s.A s.xs.length s.c) (.int .i64 k)).run P w = .ok (.pointer (some ⟨ablk s.A, aoff s.A + k * sz, none⟩)) w := by
    rw [hA]
    simp [Instr.indexAt, asIntOf, run_underlying hE.info.ht, sizeOf, typeInfo, hi', hsize, h1, addj, ablk, aoff, go_sem]
  unfold execOp
  simp only [ho, hx, hi, Sem.run_bind, Sem.run_pure, Result.andThen_ok, hr]
theorem yields_load_rdb (hw : Region.wanted o (yielded ops a.tmps) = true) {ty : TypeId} {x : Operand} (ho : o.op = .load ty x) (s : Sl α) (hR : ∀ w, S w → Rd enc sz w s) {q : Nat} (hx : a.eval x = .pointer (some ⟨ablk s.A, q, none⟩)) [hT : TyS P ty] {k : Nat} (y : α) (hk : s.xs[k]? = some y) {j : Nat} (hq : q = aoff s.A + k * sz + j) {v : Value} (hv : (enc y)[j]? = some v) :
    YieldsIf P ops S o v a := by
  subst hq
  refine .inl ⟨hw, fun w hS => ?_⟩
  have hr : (Instr.loadAt ty (a.eval x)).run P w = .ok v w := by rw [hx]; exact run_load_rd (hR w hS) hT hk hv
  unfold execOp
  simp only [ho, Sem.run_bind, Sem.run_pure, Result.andThen_ok, hr]
end
@[go_sem] theorem run_build_bare (A1 : Option Addr) (n1 c1 : Nat) (w : World) : (Instr.build 28 #[(0, .slice A1 n1 c1)]).run Tryz.prog w = .ok (.agg #[.slice A1 n1 c1, .slice none 0 0, .slice none 0 0, .int .i64 0]) w := by kernel_rfl
set_option maxRecDepth 100000 in
set_option maxHeartbeats 4000000 in
theorem specBareNew_c (s : Sl (Sl Ins)) (W0 : World) (R : Rd hcells 1 W0 s) (Ri : ∀ x ∈ s.xs, Rd Ins.cells 2 W0 x) (Zi : ∀ x ∈ s.xs, x.xs.length ≤ 4194304) (Z : s.xs.length ≤ 4194304) (hc : s.xs.length ≤ s.c) : Calls Tryz.prog 23 #[.slice s.A s.xs.length s.c] W0 fun e w' => ∃ d : BV, e = .returned d.val ∧ d.m = bareNewM (s.xs.map (fun x => x.xs)) ∧ Hp W0 w' [.bare d] := by
  have H := Hp.start W0
  obtain ⟨q, hq⟩ : ∃ q : Nat, q = min s.xs.length 2 := ⟨_, rfl⟩
  have HQ := Lib.hid hq
  have E1 : Hid ((min (s.xs.length : Int) 2).toNat = q) := Lib.hid (by omega)
  have E2 : Hid (max (min (s.xs.length : Int) 2) 0 = (q : Int)) := Lib.hid (by omega)
  have HT : Hid (s.xs.take q = s.xs.take 2) := Lib.hid (by
    rcases Nat.le_total s.xs.length 2 with h | h
    · rw [hq, Nat.min_eq_left h, List.take_of_length_le (Nat.le_refl _), List.take_of_length_le h]
    · rw [hq, Nat.min_eq_right h])
  have HL2 : Hid ((s.xs.take 2).length = q) := Lib.hid (by rw [List.length_take, hq]; omega)
  have hqc : (q : Int) ≤ (s.c : Int) := by omega
  have hqn : q ≤ s.xs.length := by omega
  have hq2 : q ≤ 2 := by omega
  have hqq : ∀ k, k < s.xs.length → k < 2 → k < q := by omega
  clear hq
  have H := Hp.start W0
  go_enter Tryz.func23, Tryz.ntmps23
  go_wp2_with (first
    | go_skip
    | ((with_reducible refine at_box ?_); first | (refine wpList_box_H rfl rfl H rfl (by constructor) ?_; clear H; intro bB w H))
    | ((with_reducible refine at_alloc ?_); first | ((with_reducible refine at_dst 3 ?_); (refine wpList_alloc_H rfl rfl H ?_); clear H; intro bB w H) | (refine wpList_alloc_H rfl rfl H ?_; clear H; intro bR w H))
    | ((with_reducible refine at_load ?_); first | (refine wpList_load_H rfl rfl H rfl (by repeat constructor) ?_) | (refine wpList_loads_H rfl rfl H rfl (by repeat constructor) ?_))
    | ((with_reducible refine at_store ?_); first | (refine wpList_store_H rfl rfl H rfl rfl (by repeat constructor) ?_; clear H; intro w H))
    | (go_at_call 110; refine (specMemNew_c _).mono ?_; rintro e w ⟨M, rfl, HX, K⟩; have HM := Lib.hid HX; clear HX; replace H := H.add_all K; clear K))
  replace H := (H.nil_sl (enc := GV.cells) (sz := 15) (e := 53)).many_nil En.gst
  go_loopw [4] (fun i wr => ∃ (k : Nat) (g : Sl GV), k ≤ q ∧ i = .int .i64 k ∧ Hid (g.xs.length = k) ∧ Hid (g.xs.map (fun x => x.m) = (s.xs.take k).map (fun x => guestNewM x.xs)) ∧ Hp W0 wr [.box bB 28 (barr (⟨M, g, ⟨none, 0, []⟩, 0⟩ : BV)).toList, .gsl g, .many En.gst g.xs, .rows M, .many En.int M.xs, .box bR 28 [.slice none 0 0, .slice none 0 0, .slice none 0 0, .int .i64 0]]) (fun i _ => q - (intOf i).toNat)
  case atStart => exact ⟨0, ⟨none, 0, []⟩, by omega, rfl, Lib.hid rfl, Lib.hid rfl, H.pick (.cons (by repeat constructor) (.cons (by repeat constructor) (.cons (by repeat constructor) (.cons (by repeat constructor) (.cons (by repeat constructor) (.cons (by repeat constructor) .nil))))))⟩
  case round =>
    clear H
    obtain ⟨k, g, hk0, rfl, HL, HD, H⟩ := hrel
    by_cases hk : k < q
    · have hks : k < s.xs.length := by omega
      have hk2 : k < 2 := by omega
      obtain ⟨y, hy0⟩ : ∃ y, s.xs[k]? = some y := ⟨_, List.getElem?_eq_getElem hks⟩
      have HY := Lib.hid hy0
      have HY2 : Hid ((s.xs.take 2)[k]? = some y) := Lib.hid (by rw [List.getElem?_take, if_pos hk2]; exact hy0)
      clear hy0
      have RY := Lib.hid (Ri y (List.mem_of_getElem? HY.out))
      have ZY := Lib.hid (Zi y (List.mem_of_getElem? HY.out))
      go_wp2_with (first
        | go_skip
        | ((with_reducible refine at_box ?_); first | (refine wpList_box_H rfl rfl H rfl (by constructor) ?_; clear H; intro b w H))
        | ((with_reducible refine at_alloc ?_); first | (refine wpList_alloc_H rfl rfl H ?_; clear H; intro b w H))
        | ((with_reducible refine at_load ?_); first | (refine wpList_load_H rfl rfl H rfl (by repeat constructor) ?_) | (refine wpList_loads_H rfl rfl H rfl (by repeat constructor) ?_))
        | ((with_reducible refine at_store ?_); first | (refine wpList_store_H rfl rfl H rfl rfl (by repeat constructor) ?_; clear H; intro w H)))
      refine wp_cut (fun u a' w' => ∃ (z : GV) (bl : Nat) (d : Sl GV), Hid (z.m = guestNewM y.xs) ∧ Hid (d.xs = g.xs ++ [z]) ∧ Hp W0 w' [.box bB 28 (barr (⟨M, d, ⟨none, 0, []⟩, 0⟩ : BV)).toList, .gsl d, .gst z, .many En.gst g.xs, .rows M, .many En.int M.xs, .box bR 28 [.slice none 0 0, .slice none 0 0, .slice none 0 0, .int .i64 0]] ∧ a' = puts u [(17, .pointer (some ⟨bB, 1, none⟩)), (18, (.slice g.A g.xs.length g.c)), (19, (.slice s.A s.xs.length s.c)), (20, (.int .i64 k)), (21, (.pointer (some ⟨ablk s.A, aoff s.A + k * 1, none⟩))), (22, (.slice y.A y.xs.length y.c)), (23, z.val), (24, (.slice (some ⟨bl, 0, none⟩) 1 1)), (25, (.slice d.A d.xs.length d.c)), (26, .pointer (some ⟨bB, 1, none⟩))]) ?_ ?_
      · refine wp_region_last 10 (S := (fun w' => Rw w' bB 28 (barr (⟨M, g, ⟨none, 0, []⟩, 0⟩ : BV)) ∧ Rd hcells 1 w' s)) (by kernel_rfl) ?_
        replace H := H.drew
        refine tkL (i := 0) rfl .here (yields_val (v := .pointer (some ⟨bB, 1, none⟩)) rfl (fun _ => by go_simp)) ⟨H.rw_ (by repeat constructor), R.at_ H⟩ ?_
        (try go_frame)
        refine tkL (i := 1) rfl (.of rfl) (yields_load1_R rfl rfl rfl (fun _ hS => hS.1) rfl) ⟨H.rw_ (by repeat constructor), R.at_ H⟩ ?_
        (try go_frame)
        refine tkL (i := 2) rfl (.of rfl) (yields_val (v := (.slice s.A s.xs.length s.c)) rfl (fun _ => by go_simp)) ⟨H.rw_ (by repeat constructor), R.at_ H⟩ ?_
        (try go_frame)
        refine tkL (i := 3) rfl (.of rfl) (yields_val (v := (.int .i64 k)) rfl (fun _ => by go_simp)) ⟨H.rw_ (by repeat constructor), R.at_ H⟩ ?_
        (try go_frame)
        refine tkL (i := 4) rfl (.of rfl) (yields_index_nb rfl rfl s (fun _ hS => hS.2) rfl rfl rfl hks) ⟨H.rw_ (by repeat constructor), R.at_ H⟩ ?_
        (try go_frame)
        refine tkL (i := 5) rfl (.of rfl) (yields_load_rdb rfl rfl s (fun _ hS => hS.2) rfl y HY.out (by first | exact rfl | exact (Nat.add_zero _).symm) rfl) ⟨H.rw_ (by repeat constructor), R.at_ H⟩ ?_
        (try go_frame)
        refine anyL_1 (i := 6) (by kernel_rfl) ?_
        refine wpOp_at rfl (.of rfl) rfl ?_
        refine wp_call_H Tryz.f111 rfl rfl Tryz.func111 (by kernel_rfl) rfl rfl (made_H H (specGuestNew_c y _ (RY.out.at_ H) ZY.out)) ?_
        clear H
        rintro _ w ⟨z, rfl, HZ, H⟩
        refine ⟨fun _ => ⟨H.rw_ (by repeat constructor), R.at_ H⟩, ?_⟩
        (try go_frame)
        refine anyL_1 (i := 7) (by kernel_rfl) ?_
        refine wpOp_at rfl (.of rfl) rfl ?_
        refine wp_one_H rfl H z rfl CellsOf.agg rfl (by decide) ?_
        clear H
        intro bl w H
        refine ⟨fun _ => ⟨H.rw_ (by repeat constructor), R.at_ H⟩, ?_⟩
        (try go_frame)
        refine anyL_1 (i := 8) (by kernel_rfl) ?_
        refine wpOp_at rfl (.of rfl) rfl ?_
        refine wp_append_H rfl H g (⟨some ⟨bl, 0, none⟩, 1, [z]⟩ : Sl GV) rfl rfl (by repeat constructor) (H.rd (s := (⟨some ⟨bl, 0, none⟩, 1, [z]⟩ : Sl GV)) (by repeat constructor) g_len) (by have := HL.out; simp only [List.length_cons, List.length_nil]; omega) (by decide) ?_
        clear H
        intro d w HX H
        refine ⟨fun _ => ⟨H.rw_ (by repeat constructor), R.at_ H⟩, ?_⟩
        (try go_frame)
        refine tkL (i := 9) rfl (.of rfl) (yields_val (v := .pointer (some ⟨bB, 1, none⟩)) rfl (fun _ => by go_simp)) ⟨H.rw_ (by repeat constructor), R.at_ H⟩ ?_
        (try go_frame)
        refine anyL_1 (i := 10) (by kernel_rfl) ?_
        refine wpOp_at rfl (.of rfl) rfl ?_
        refine wp_store_H rfl H rfl rfl (by repeat constructor) ?_
        clear H
        intro w H
        refine ⟨fun hw => absurd rfl hw, ?_⟩
        (try go_frame)
        refine anyL_done (by kernel_rfl) ?_ _
        exact ⟨rfl, z, bl, d, HZ, HX, H.pick (.cons (by repeat constructor) (.cons (by repeat constructor) (.cons (by repeat constructor) (.cons (by repeat constructor) (.cons (by repeat constructor) (.cons (by repeat constructor) (.cons (by repeat constructor) .nil))))))), by first | (simp only [puts_cons, puts_nil, Act.put, List.setIfInBounds_toArray, List.set_cons_succ, List.set_cons_zero]; done) | (simp only [puts_cons, puts_nil, Act.put, List.setIfInBounds_toArray, List.set_cons_succ, List.set_cons_zero]; rfl)⟩
      clear H
      rintro u w ⟨z, bl, d, HZ, HX, H, rfl⟩
      simp only [puts_cons, puts_nil, Act.put, List.setIfInBounds_toArray, List.set_cons_succ, List.set_cons_zero]
      go_wp2
      go_roundw
      case rel =>
        refine ⟨k + 1, d, by omega, by go_num, Lib.hid (by rw [HX.out]; simp [HL.out]), Lib.hid (by rw [HX.out, List.take_add_one, List.map_append, List.map_append, HD.out, HY.out]; simp [HZ.out]), ?_⟩
        have h5 := (H.pick (M := [.gst z, .many En.gst g.xs, .box bB 28 (barr (⟨M, d, ⟨none, 0, []⟩, 0⟩ : BV)).toList, .gsl d, .rows M, .many En.int M.xs, .box bR 28 [.slice none 0 0, .slice none 0 0, .slice none 0 0, .int .i64 0]]) (.cons (by repeat constructor) (.cons (by repeat constructor) (.cons (by repeat constructor) (.cons (by repeat constructor) (.cons (by repeat constructor) (.cons (by repeat constructor) (.cons (by repeat constructor) .nil)))))))).many_snoc
        rw [← HX.out] at h5
        exact h5.pick (.cons (by repeat constructor) (.cons (by repeat constructor) (.cons (by repeat constructor) (.cons (by repeat constructor) (.cons (by repeat constructor) (.cons (by repeat constructor) .nil))))))
      case measure => simp [intOf]; omega
    · have hke : k = q := by omega
      subst hke
      by_cases hn : k < s.xs.length
      · have h2 : 2 ≤ k := by have := hqq k hn; omega
        go_wp2_with (first
          | go_skip
          | ((with_reducible refine at_box ?_); first | (refine wpList_box_H rfl rfl H rfl (by constructor) ?_; clear H; intro b w H))
          | ((with_reducible refine at_alloc ?_); first | (refine wpList_alloc_H rfl rfl H ?_; clear H; intro bQ w H))
          | ((with_reducible refine at_load ?_); first | (refine wpList_load_H rfl rfl H rfl (by repeat constructor) ?_) | (refine wpList_loads_H rfl rfl H rfl (by repeat constructor) ?_))
          | ((with_reducible refine at_store ?_); first | (refine wpList_store_H rfl rfl H rfl rfl (by repeat constructor) ?_; clear H; intro w H)))
        have H2 : Hp W0 _ (.int ⟨none, 0, []⟩ :: _) := H.nil_sl
        refine bodyPost_ret (results_H rfl H rfl (by repeat constructor)) rfl ⟨⟨M, g, ⟨none, 0, []⟩, 0⟩, rfl, ?_, H2.bare5 (.cons (by repeat constructor) (.cons (by repeat constructor) (.cons (by repeat constructor) (.cons (by repeat constructor) (.cons (by repeat constructor) .nil))))) rfl rfl⟩
        show MB.mk (M.xs.map (fun x => x.xs)) (g.xs.map (fun x => x.m)) [] 0 = _
        rw [HM.out, HD.out, HT.out]
        unfold bareNewM
        rw [← List.map_take, List.map_map]
        rfl
      · have h2 : s.xs.length ≤ k := by omega
        go_wp2_with (first
          | go_skip
          | ((with_reducible refine at_box ?_); first | (refine wpList_box_H rfl rfl H rfl (by constructor) ?_; clear H; intro b w H))
          | ((with_reducible refine at_alloc ?_); first | (refine wpList_alloc_H rfl rfl H ?_; clear H; intro bQ w H))
          | ((with_reducible refine at_load ?_); first | (refine wpList_load_H rfl rfl H rfl (by repeat constructor) ?_) | (refine wpList_loads_H rfl rfl H rfl (by repeat constructor) ?_))
          | ((with_reducible refine at_store ?_); first | (refine wpList_store_H rfl rfl H rfl rfl (by repeat constructor) ?_; clear H; intro w H)))
        have H2 : Hp W0 _ (.int ⟨none, 0, []⟩ :: _) := H.nil_sl
        refine bodyPost_ret (results_H rfl H rfl (by repeat constructor)) rfl ⟨⟨M, g, ⟨none, 0, []⟩, 0⟩, rfl, ?_, H2.bare5 (.cons (by repeat constructor) (.cons (by repeat constructor) (.cons (by repeat constructor) (.cons (by repeat constructor) (.cons (by repeat constructor) .nil))))) rfl rfl⟩
        show MB.mk (M.xs.map (fun x => x.xs)) (g.xs.map (fun x => x.m)) [] 0 = _
        rw [HM.out, HD.out, HT.out]
        unfold bareNewM
        rw [← List.map_take, List.map_map]
        rfl
end Go.Proofs.YtaafnenmdombiaaGreat
