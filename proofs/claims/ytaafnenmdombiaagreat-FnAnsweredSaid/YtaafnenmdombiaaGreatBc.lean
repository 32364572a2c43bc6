/- Contracts of the copies of slices of slices, of guests, and of bare machines, of the program and of the reference. No condition but that the argument lies in memory. -/
import Derived.Maps.RangeWalk
import Derived.Test.YtaafnenmdombiaaGreatBa
import Derived.Great.FillDense
namespace Go.Proofs.YtaafnenmdombiaaGreat
set_option linter.unusedSimpArgs false
set_option linter.unusedVariables false
set_option linter.unusedSimpArgs false
set_option linter.unusedVariables false
open Go.RowKit
theorem nil_app {α : Type} {c : Sl α} {l : List α} (h : Hid (c.xs = [] ++ l)) : Hid (c.xs = l) := h.out
section
variable {P : Program} {ops : Array Oper} {rest : List Oper} {o : Oper} {a : Act} {w0 w : World} {L : List En} {Q : Go.Exit → Act → World → Prop} {α : Type} {enc : α → List Value} {sz bytes e : Nat}
theorem fill_one {v : Value} {cs : List Value} (hv : v.cells = cs.toArray) (hl : cs.length = sz) (hp : 0 < sz) {cur : Array Value} (hc : cur.size = sz) : Instr.fill (fun i => some (i * sz, sz)) cur [(0, v)] = some cs.toArray := by
  have hs : v.cells.size = sz := by rw [hv]; simpa using hl
  obtain ⟨r, h1, h2, h3⟩ := Go.Great.fill_dense hp [v] 0 cur (by simpa using hs) (by simp; omega)
  simp only [List.zipIdx_cons, List.zipIdx_nil, List.map_cons, List.map_nil] at h1
  rw [h1]
  congr 1
  apply Array.ext_getElem?
  intro k
  rw [h3 k]
  simp only [List.length_cons, List.length_nil, Nat.zero_mul, Nat.zero_le, true_and, Nat.zero_add, Nat.one_mul, Nat.sub_zero]
  by_cases hk : k < sz
  · rw [if_pos hk, Nat.div_eq_of_lt hk, Nat.mod_eq_of_lt hk]; simp [hv]
  · rw [if_neg hk, Array.getElem?_eq_none (by omega), Array.getElem?_eq_none (by simp; omega)]
/-- A slice of one element is made. -/
theorem wpList_one_H (hgd : Region.wanted o (yielded ops a.tmps) = true) {t : TypeId} {x : Operand} (ho : o.op = .buildSlice t 1 #[(0, x)]) (H : Hp w0 w L) [hE : EI P t enc sz bytes e] {zc : List Value} [hZ : TyZ P e zc] (y : α) {v : Value} {cs : List Value} (hx : a.eval x = v) (hv : CellsOf v cs) (he : enc y = cs) (hsm : sz ≤ 2 ^ 24)
    (h : ∀ b w', Hp w0 w' (.sl enc sz e ⟨some ⟨b, 0, none⟩, 1, [y]⟩ :: L) → wpList P ops Q rest (a.put o.dst (.slice (some ⟨b, 0, none⟩) 1 1)) w') : wpList P ops Q (o :: rest) a w := by
  subst he
  refine wpList_lit_H hgd ho H [y] ?_ rfl (by have := hE.info.hsz; omega) (by omega) h
  have h1 := fill_one (cur := (Array.range ([y].length * sz)).map (zc.toArray[· % zc.toArray.size]!)) hv.eq (hE.info.henc y) hE.info.hsz (by simp)
  simpa [hx] using h1
end
set_option maxRecDepth 100000 in
set_option maxHeartbeats 4000000 in
theorem copyMem_c (s : Sl (Sl Int)) (W0 : World) (R : Rd hcells 1 W0 s) (Ri : ∀ x ∈ s.xs, Rd icell 1 W0 x) (Z : s.xs.length ≤ 4194304) (Zi : ∀ x ∈ s.xs, x.xs.length ≤ 4194304) : Calls Tryz.prog 184 #[.slice s.A s.xs.length s.c] W0 fun e w' => ∃ d : Sl (Sl Int), e = .returned (.slice d.A d.xs.length d.c) ∧ d.xs.map (fun x => x.xs) = s.xs.map (fun x => x.xs) ∧ Hp W0 w' [.rows d, .many En.int d.xs] := by
  have H := Hp.start W0
  go_enter Tryz.func184, Tryz.ntmps184
  go_wp2_with (first
    | go_skip
    | (refine wpList_box_H rfl rfl H rfl (by constructor) ?_; clear H; intro b w H)
    | (refine wpList_alloc_H rfl rfl H ?_; clear H; intro b w H)
    | (refine wpList_load_H rfl rfl H rfl (by repeat constructor) ?_)
    | (refine wpList_loads_H rfl rfl H rfl (by repeat constructor) ?_)
    | (refine wpList_store_H rfl rfl H rfl rfl (by repeat constructor) ?_; clear H; intro w H)
    | (refine wpList_nil_H rfl rfl H ?_; clear H; intro b w H))
  replace H := H.many_nil En.int
  go_loopw [3, 9] (fun ov i wr => ∃ (k : Nat) (d : Sl (Sl Int)), k ≤ s.xs.length ∧ i = .int .i64 k ∧ ov = .slice d.A d.xs.length d.c ∧ d.xs.length = k ∧ d.xs.map (fun x => x.xs) = (s.xs.take k).map (fun x => x.xs) ∧ Hp W0 wr [.rows d, .many En.int d.xs]) (fun _ i _ => s.xs.length - (intOf i).toNat)
  case atStart => exact ⟨0, ⟨some ⟨b, 0, none⟩, 0, []⟩, by omega, rfl, rfl, rfl, by simp, H.perm (List.Perm.swap _ _ _)⟩
  case round =>
    clear H
    obtain ⟨k, d, hk0, rfl, rfl, hdl, hds, H⟩ := hrel
    have HD := Lib.hid hds; have HL := Lib.hid hdl; clear hds hdl
    by_cases hk : k < s.xs.length
    · obtain ⟨y, hy0⟩ : ∃ y, s.xs[k]? = some y := ⟨_, List.getElem?_eq_getElem hk⟩
      have HY := Lib.hid hy0; clear hy0
      have RY := Lib.hid (Ri y (List.mem_of_getElem? HY.out))
      have ZY := Lib.hid (Zi y (List.mem_of_getElem? HY.out))
      go_wp2_with (first
        | go_skip
        | (refine wpList_box_H rfl rfl H rfl (by constructor) ?_; clear H; intro b w H)
        | (refine wpList_alloc_H rfl rfl H ?_; clear H; intro b w H)
        | (refine wpList_load_H rfl rfl H rfl (by repeat constructor) ?_)
        | (refine wpList_loads_H rfl rfl H rfl (by repeat constructor) ?_)
        | (refine wpList_store_H rfl rfl H rfl rfl (by repeat constructor) ?_; clear H; intro w H)
        | (refine wpList_index_n rfl rfl s (R.at_ H) rfl rfl rfl hk ?_)
        | (refine wpList_load_rd rfl rfl s (R.at_ H) rfl y HY.out rfl ?_)
        | (go_at_call 186; refine (copyInts_any y _ (RY.out.at_ H) ZY.out).mono ?_; rintro e w ⟨c, rfl, hx, ho, hb⟩; have HX := Lib.hid hx; clear hx; replace H := H.add_sl ho hb; clear ho hb)
        | (refine wpList_one_H rfl rfl H c rfl (by constructor) rfl (by decide) ?_; clear H; intro bl w H)
        | (refine wpList_append_H rfl rfl H d (⟨some ⟨bl, 0, none⟩, 1, [c]⟩ : Sl (Sl Int)) rfl rfl (by repeat constructor) (H.rd (by repeat constructor) h_len) (by have := HL.out; simp only [List.length_cons, List.length_nil]; omega) (by decide) ?_; clear H; intro d' w hx' H))
      go_roundw
      case rel =>
        refine ⟨k + 1, d', by omega, by go_num, rfl, by rw [hx'.out]; simp [HL.out], by rw [hx'.out]; exact map_snoc HD.out HY.out HX.out, ?_⟩
        rw [hx'.out]
        exact (H.pick (M := [.int c, .many En.int d.xs, .rows d']) (.cons (by repeat constructor) (.cons (by repeat constructor) (.cons (by repeat constructor) .nil)))).many_snoc.perm (List.Perm.swap _ _ _)
      case measure => simp [intOf]; omega
    · have hke : k = s.xs.length := by omega
      subst hke
      go_wp2
      go_ret
      have hd := HD.out
      rw [List.take_length] at hd
      exact ⟨d, rfl, hd, H⟩
set_option maxRecDepth 100000 in
set_option maxHeartbeats 4000000 in
theorem copyGuests_c (s : Sl (GV)) (W0 : World) (R : Rd GV.cells 15 W0 s) (Ri : ∀ x ∈ s.xs, GRd W0 x) (Z : s.xs.length ≤ 4194304) (Zi : ∀ x ∈ s.xs, GBig x) : Calls Tryz.prog 185 #[.slice s.A s.xs.length s.c] W0 fun e w' => ∃ d : Sl (GV), e = .returned (.slice d.A d.xs.length d.c) ∧ d.xs.map (fun x => x.m) = s.xs.map (fun x => x.m) ∧ Hp W0 w' [.gsl d, .many En.gst d.xs] := by
  have H := Hp.start W0
  go_enter Tryz.func185, Tryz.ntmps185
  go_wp2_with (first
    | go_skip
    | (refine wpList_box_H rfl rfl H rfl (by constructor) ?_; clear H; intro b w H)
    | (refine wpList_alloc_H rfl rfl H ?_; clear H; intro b w H)
    | (refine wpList_load_H rfl rfl H rfl (by repeat constructor) ?_)
    | (refine wpList_loads_H rfl rfl H rfl (by repeat constructor) ?_)
    | (refine wpList_store_H rfl rfl H rfl rfl (by repeat constructor) ?_; clear H; intro w H)
    | (refine wpList_nil_H rfl rfl H ?_; clear H; intro b w H))
  replace H := H.many_nil En.gst
  go_loopw [3, 9] (fun ov i wr => ∃ (k : Nat) (d : Sl (GV)), k ≤ s.xs.length ∧ i = .int .i64 k ∧ ov = .slice d.A d.xs.length d.c ∧ d.xs.length = k ∧ d.xs.map (fun x => x.m) = (s.xs.take k).map (fun x => x.m) ∧ Hp W0 wr [.gsl d, .many En.gst d.xs]) (fun _ i _ => s.xs.length - (intOf i).toNat)
  case atStart => exact ⟨0, ⟨some ⟨b, 0, none⟩, 0, []⟩, by omega, rfl, rfl, rfl, by simp, H.perm (List.Perm.swap _ _ _)⟩
  case round =>
    clear H
    obtain ⟨k, d, hk0, rfl, rfl, hdl, hds, H⟩ := hrel
    have HD := Lib.hid hds; have HL := Lib.hid hdl; clear hds hdl
    by_cases hk : k < s.xs.length
    · obtain ⟨y, hy0⟩ : ∃ y, s.xs[k]? = some y := ⟨_, List.getElem?_eq_getElem hk⟩
      have HY := Lib.hid hy0; clear hy0
      have RY := Lib.hid (Ri y (List.mem_of_getElem? HY.out))
      have ZY := Lib.hid (Zi y (List.mem_of_getElem? HY.out))
      go_wp2_with (first
        | go_skip
        | (refine wpList_box_H rfl rfl H rfl (by constructor) ?_; clear H; intro b w H)
        | (refine wpList_alloc_H rfl rfl H ?_; clear H; intro b w H)
        | (refine wpList_load_H rfl rfl H rfl (by repeat constructor) ?_)
        | (refine wpList_loads_H rfl rfl H rfl (by repeat constructor) ?_)
        | (refine wpList_store_H rfl rfl H rfl rfl (by repeat constructor) ?_; clear H; intro w H)
        | (refine wpList_index_n rfl rfl s (R.at_ H) rfl rfl rfl hk ?_)
        | (refine wpList_loads_rd rfl rfl s (R.at_ H) rfl y HY.out (by repeat constructor) ?_)
        | (go_at_call 148; refine (copyGuest_c y _ (RY.out.at_ H) ZY.out).mono ?_; rintro e w ⟨p1, r1, l1, n1, rfl, x1, x2, x3, x4, ho, hb⟩; have hp1 := Lib.hid x1; have hr1 := Lib.hid x2; have hl1 := Lib.hid x3; have hn1 := Lib.hid x4; clear x1 x2 x3 x4; replace H := H.add_gst ho hb; clear ho hb)
        | (refine wpList_one_H rfl rfl H (⟨p1, y.a, y.pc, r1, l1, y.ctl, y.pending, y.exit, y.halted, n1⟩ : GV) rfl (by constructor) rfl (by decide) ?_; clear H; intro bl w H)
        | (refine wpList_append_H rfl rfl H d (⟨some ⟨bl, 0, none⟩, 1, [(⟨p1, y.a, y.pc, r1, l1, y.ctl, y.pending, y.exit, y.halted, n1⟩ : GV)]⟩ : Sl (GV)) rfl rfl (by repeat constructor) (H.rd (by repeat constructor) g_len) (by have := HL.out; simp only [List.length_cons, List.length_nil]; omega) (by decide) ?_; clear H; intro d' w hx' H))
      go_roundw
      case rel =>
        refine ⟨k + 1, d', by omega, by go_num, rfl, by rw [hx'.out]; simp [HL.out], by rw [hx'.out]; exact map_snoc HD.out HY.out (by simp only [GV.m, hp1.out, hr1.out, hl1.out, hn1.out]), ?_⟩
        rw [hx'.out]
        exact (H.pick (M := [.gst (⟨p1, y.a, y.pc, r1, l1, y.ctl, y.pending, y.exit, y.halted, n1⟩ : GV), .many En.gst d.xs, .gsl d']) (.cons (by repeat constructor) (.cons (by repeat constructor) (.cons (by repeat constructor) .nil)))).many_snoc.perm (List.Perm.swap _ _ _)
      case measure => simp [intOf]; omega
    · have hke : k = s.xs.length := by omega
      subst hke
      go_wp2
      go_ret
      have hd := HD.out
      rw [List.take_length] at hd
      exact ⟨d, rfl, hd, H⟩
set_option maxRecDepth 100000 in
set_option maxHeartbeats 4000000 in
theorem l04Copy_c (s : Sl (Sl Int)) (W0 : World) (R : Rd hcells 1 W0 s) (Ri : ∀ x ∈ s.xs, Rd icell 1 W0 x) (Z : s.xs.length ≤ 4194304) (Zi : ∀ x ∈ s.xs, x.xs.length ≤ 4194304) : Calls Tryz.prog 169 #[.slice s.A s.xs.length s.c] W0 fun e w' => ∃ d : Sl (Sl Int), e = .returned (.slice d.A d.xs.length d.c) ∧ d.xs.map (fun x => x.xs) = s.xs.map (fun x => x.xs) ∧ Hp W0 w' [.rows d, .many En.int d.xs] := by
  have H := Hp.start W0
  go_enter Tryz.func169, Tryz.ntmps169
  go_wp2_with (first
    | go_skip
    | (refine wpList_box_H rfl rfl H rfl (by constructor) ?_; clear H; intro b w H)
    | (refine wpList_alloc_H rfl rfl H ?_; clear H; intro b w H)
    | (refine wpList_load_H rfl rfl H rfl (by repeat constructor) ?_)
    | (refine wpList_loads_H rfl rfl H rfl (by repeat constructor) ?_)
    | (refine wpList_store_H rfl rfl H rfl rfl (by repeat constructor) ?_; clear H; intro w H)
    | (refine wpList_nil_H rfl rfl H ?_; clear H; intro b w H))
  replace H := H.many_nil En.int
  go_loopw [3, 4] (fun ov i wr => ∃ (k : Nat) (d : Sl (Sl Int)), k ≤ s.xs.length ∧ i = .int .i64 k ∧ ov = .slice d.A d.xs.length d.c ∧ d.xs.length = k ∧ d.xs.map (fun x => x.xs) = (s.xs.take k).map (fun x => x.xs) ∧ Hp W0 wr [.rows d, .many En.int d.xs]) (fun _ i _ => s.xs.length - (intOf i).toNat)
  case atStart => exact ⟨0, ⟨some ⟨b, 0, none⟩, 0, []⟩, by omega, rfl, rfl, rfl, by simp, H.perm (List.Perm.swap _ _ _)⟩
  case round =>
    clear H
    obtain ⟨k, d, hk0, rfl, rfl, hdl, hds, H⟩ := hrel
    have HD := Lib.hid hds; have HL := Lib.hid hdl; clear hds hdl
    by_cases hk : k < s.xs.length
    · obtain ⟨y, hy0⟩ : ∃ y, s.xs[k]? = some y := ⟨_, List.getElem?_eq_getElem hk⟩
      have HY := Lib.hid hy0; clear hy0
      have RY := Lib.hid (Ri y (List.mem_of_getElem? HY.out))
      have ZY := Lib.hid (Zi y (List.mem_of_getElem? HY.out))
      go_wp2_with (first
        | go_skip
        | (refine wpList_box_H rfl rfl H rfl (by constructor) ?_; clear H; intro b w H)
        | (refine wpList_alloc_H rfl rfl H ?_; clear H; intro b w H)
        | (refine wpList_load_H rfl rfl H rfl (by repeat constructor) ?_)
        | (refine wpList_loads_H rfl rfl H rfl (by repeat constructor) ?_)
        | (refine wpList_store_H rfl rfl H rfl rfl (by repeat constructor) ?_; clear H; intro w H)
        | (refine wpList_index_n rfl rfl s (R.at_ H) rfl rfl rfl hk ?_)
        | (refine wpList_load_rd rfl rfl s (R.at_ H) rfl y HY.out rfl ?_)
        | (refine wpList_nil_H rfl rfl H ?_; clear H; intro b w H)
        | (refine wpList_append_H rfl rfl H (⟨some ⟨b, 0, none⟩, 0, []⟩ : Sl Int) y rfl rfl (by repeat constructor) (RY.out.at_ H) (by have := ZY.out; simp only [List.length_nil]; omega) (by decide) ?_; clear H; intro c w HX H; replace HX := nil_app HX)
        | (refine wpList_one_H rfl rfl H c rfl (by constructor) rfl (by decide) ?_; clear H; intro bl w H)
        | (refine wpList_append_H rfl rfl H d (⟨some ⟨bl, 0, none⟩, 1, [c]⟩ : Sl (Sl Int)) rfl rfl (by repeat constructor) (H.rd (by repeat constructor) h_len) (by have := HL.out; simp only [List.length_cons, List.length_nil]; omega) (by decide) ?_; clear H; intro d' w hx' H))
      go_roundw
      case rel =>
        refine ⟨k + 1, d', by omega, by go_num, rfl, by rw [hx'.out]; simp [HL.out], by rw [hx'.out]; exact map_snoc HD.out HY.out HX.out, ?_⟩
        rw [hx'.out]
        exact (H.pick (M := [.int c, .many En.int d.xs, .rows d']) (.cons (by repeat constructor) (.cons (by repeat constructor) (.cons (by repeat constructor) .nil)))).many_snoc.perm (List.Perm.swap _ _ _)
      case measure => simp [intOf]; omega
    · have hke : k = s.xs.length := by omega
      subst hke
      go_wp2
      go_ret
      have hd := HD.out
      rw [List.take_length] at hd
      exact ⟨d, rfl, hd, H⟩
set_option maxRecDepth 100000 in
set_option maxHeartbeats 4000000 in
theorem l17Guests_c (s : Sl (GV)) (W0 : World) (R : Rd GV.cells 15 W0 s) (Ri : ∀ x ∈ s.xs, GRd W0 x) (Z : s.xs.length ≤ 4194304) (Zi : ∀ x ∈ s.xs, GBig x) : Calls Tryz.prog 170 #[.slice s.A s.xs.length s.c] W0 fun e w' => ∃ d : Sl (GV), e = .returned (.slice d.A d.xs.length d.c) ∧ d.xs.map (fun x => x.m) = s.xs.map (fun x => x.m) ∧ Hp W0 w' [.gsl d, .many En.gst d.xs] := by
  have H := Hp.start W0
  go_enter Tryz.func170, Tryz.ntmps170
  go_wp2_with (first
    | go_skip
    | (refine wpList_box_H rfl rfl H rfl (by constructor) ?_; clear H; intro b w H)
    | (refine wpList_alloc_H rfl rfl H ?_; clear H; intro b w H)
    | (refine wpList_load_H rfl rfl H rfl (by repeat constructor) ?_)
    | (refine wpList_loads_H rfl rfl H rfl (by repeat constructor) ?_)
    | (refine wpList_store_H rfl rfl H rfl rfl (by repeat constructor) ?_; clear H; intro w H)
    | (refine wpList_nil_H rfl rfl H ?_; clear H; intro b w H))
  replace H := H.many_nil En.gst
  go_loopw [3, 4] (fun ov i wr => ∃ (k : Nat) (d : Sl (GV)), k ≤ s.xs.length ∧ i = .int .i64 k ∧ ov = .slice d.A d.xs.length d.c ∧ d.xs.length = k ∧ d.xs.map (fun x => x.m) = (s.xs.take k).map (fun x => x.m) ∧ Hp W0 wr [.gsl d, .many En.gst d.xs]) (fun _ i _ => s.xs.length - (intOf i).toNat)
  case atStart => exact ⟨0, ⟨some ⟨b, 0, none⟩, 0, []⟩, by omega, rfl, rfl, rfl, by simp, H.perm (List.Perm.swap _ _ _)⟩
  case round =>
    clear H
    obtain ⟨k, d, hk0, rfl, rfl, hdl, hds, H⟩ := hrel
    have HD := Lib.hid hds; have HL := Lib.hid hdl; clear hds hdl
    by_cases hk : k < s.xs.length
    · obtain ⟨y, hy0⟩ : ∃ y, s.xs[k]? = some y := ⟨_, List.getElem?_eq_getElem hk⟩
      have HY := Lib.hid hy0; clear hy0
      have RY := Lib.hid (Ri y (List.mem_of_getElem? HY.out))
      have ZY := Lib.hid (Zi y (List.mem_of_getElem? HY.out))
      go_wp2_with (first
        | go_skip
        | (refine wpList_box_H rfl rfl H rfl (by constructor) ?_; clear H; intro b w H)
        | (refine wpList_alloc_H rfl rfl H ?_; clear H; intro b w H)
        | (refine wpList_load_H rfl rfl H rfl (by repeat constructor) ?_)
        | (refine wpList_loads_H rfl rfl H rfl (by repeat constructor) ?_)
        | (refine wpList_store_H rfl rfl H rfl rfl (by repeat constructor) ?_; clear H; intro w H)
        | (refine wpList_index_n rfl rfl s (R.at_ H) rfl rfl rfl hk ?_)
        | (refine wpList_loads_rd rfl rfl s (R.at_ H) rfl y HY.out (by repeat constructor) ?_)
        | (go_at_call 149; refine (l15Copy_c y _ (RY.out.at_ H) ZY.out).mono ?_; rintro e w ⟨p1, r1, l1, n1, rfl, x1, x2, x3, x4, ho, hb⟩; have hp1 := Lib.hid x1; have hr1 := Lib.hid x2; have hl1 := Lib.hid x3; have hn1 := Lib.hid x4; clear x1 x2 x3 x4; replace H := H.add_gst ho hb; clear ho hb)
        | (refine wpList_one_H rfl rfl H (⟨p1, y.a, y.pc, r1, l1, y.ctl, y.pending, y.exit, y.halted, n1⟩ : GV) rfl (by constructor) rfl (by decide) ?_; clear H; intro bl w H)
        | (refine wpList_append_H rfl rfl H d (⟨some ⟨bl, 0, none⟩, 1, [(⟨p1, y.a, y.pc, r1, l1, y.ctl, y.pending, y.exit, y.halted, n1⟩ : GV)]⟩ : Sl (GV)) rfl rfl (by repeat constructor) (H.rd (by repeat constructor) g_len) (by have := HL.out; simp only [List.length_cons, List.length_nil]; omega) (by decide) ?_; clear H; intro d' w hx' H))
      go_roundw
      case rel =>
        refine ⟨k + 1, d', by omega, by go_num, rfl, by rw [hx'.out]; simp [HL.out], by rw [hx'.out]; exact map_snoc HD.out HY.out (by simp only [GV.m, hp1.out, hr1.out, hl1.out, hn1.out]), ?_⟩
        rw [hx'.out]
        exact (H.pick (M := [.gst (⟨p1, y.a, y.pc, r1, l1, y.ctl, y.pending, y.exit, y.halted, n1⟩ : GV), .many En.gst d.xs, .gsl d']) (.cons (by repeat constructor) (.cons (by repeat constructor) (.cons (by repeat constructor) .nil)))).many_snoc.perm (List.Perm.swap _ _ _)
      case measure => simp [intOf]; omega
    · have hke : k = s.xs.length := by omega
      subst hke
      go_wp2
      go_ret
      have hd := HD.out
      rw [List.take_length] at hd
      exact ⟨d, rfl, hd, H⟩
section
variable {P : Program} {ops : Array Oper} {md : Region.Mode} {S : World → Prop} {o : Oper} {a : Act} {w0 w : World} {L L' : List En} {Q : Go.Exit → Act → World → Prop} {K : Act → World → Prop}
theorem yields_load1_R (hw : Region.wanted o (yielded ops a.tmps) = true) {ty : TypeId} {x : Operand} (ho : o.op = .load ty x) {b i : Nat} (hx : a.eval x = .pointer (some ⟨b, i, none⟩)) [hT : TyS P ty] {e : TypeId} {cs : List Value} {v : Value} (hR : ∀ w, S w → Rw w b e cs.toArray) (hv : cs[i]? = some v) :
    YieldsIf P ops S o v a := by
  refine .inl ⟨hw, fun w hS => ?_⟩
  have hc : w.cell? ⟨b, i, none⟩ = some v := by rw [(hR w hS).c]; simpa using hv
  have hr : (Instr.loadAt ty (a.eval x)).run P w = .ok v w := by
    rw [hx]; simp [Instr.loadAt, Instr.sureAddr, loadVar, hT.isAgg, hc, go_sem]
  unfold execOp
  simp only [ho, Sem.run_bind, Sem.run_pure, Result.andThen_ok, hr]
theorem yields_val {v : Value} (hw : Region.wanted o (yielded ops a.tmps) = true) (hr : ∀ w, (execOp a.eval o).run P w = .ok (.value v) w) : YieldsIf P ops S o v a := .inl ⟨hw, fun w _ => hr w⟩
/-- A call that makes something, told for a region that draws. -/
theorem made_H {f : FuncId} {args : Array Value} {α : Type} {val : α → Value} {F : α → Prop} {M : α → List En} (H : Hp w0 w L) (h : Calls P f args w (fun e w' => ∃ d : α, e = .returned (val d) ∧ F d ∧ Hp w w' (M d))) :
    Calls P f args w (fun e w' => ∃ v, e = .returned v ∧ ∃ d : α, v = val d ∧ Hid (F d) ∧ Hp w0 w' (M d ++ L)) :=
  h.mono fun _ _ ⟨d, he, hf, K⟩ => ⟨_, he, d, rfl, hf, H.add_all K⟩
theorem madesl_H {f : FuncId} {args : Array Value} {α : Type} {enc : α → List Value} {sz e : Nat} {F : Sl α → Prop} (H : Hp w0 w L) (h : Calls P f args w (fun r w' => ∃ d : Sl α, r = .returned (.slice d.A d.xs.length d.c) ∧ F d ∧ Own enc sz e w' w.heap.size d ∧ Below w.heap.size w w')) :
    Calls P f args w (fun r w' => ∃ v, r = .returned v ∧ ∃ d : Sl α, v = .slice d.A d.xs.length d.c ∧ Hid (F d) ∧ Hp w0 w' (.sl enc sz e d :: L)) :=
  h.mono fun _ _ ⟨d, he, hf, ho, hb⟩ => ⟨_, he, d, rfl, hf, H.add_sl ho hb⟩
theorem wp_nil_H {t : TypeId} (ho : o.op = .buildSlice t 0 #[]) (H : Hp w0 w L) {α : Type} {enc : α → List Value} {sz bytes e : Nat} [hE : EI P t enc sz bytes e]
    (h : ∀ b w', Hp w0 w' (.sl enc sz e ⟨some ⟨b, 0, none⟩, 0, []⟩ :: L) → K (a.put o.dst (.slice (some ⟨b, 0, none⟩) 0 0)) w') : o.wp P a w K Q := by
  obtain ⟨i, z, hi, hz, hsize, hby, hzs⟩ := hE.info.hi
  have hr : (Instr.buildSlice t 0 #[]).run P w = .ok (.slice (some ⟨w.heap.size, 0, none⟩) 0 0) (w.alloc (.cells #[] e)) := by
    simp [Instr.buildSlice, run_underlying hE.info.ht, sizeOf, typeInfo, hi, Instr.fill, newRow, go_sem]
  unfold Oper.wp execOp
  simp only [ho, List.map_toArray, List.map_nil, Sem.run_bind, Sem.run_pure, Result.andThen_ok, hr]
  exact h _ _ (H.add_sl (own_nothing w (Nat.le_refl _)) ((Below.refl _ _).alloc (Nat.le_refl _) _))
theorem wp_append_H {s x : Operand} {t : TypeId} (ho : o.op = .call { callee := .builtin .append, args := #[s, x], argTypes := #[t, t] }) (H : Hp w0 w L) {α : Type} {enc : α → List Value} {sz bytes e : Nat} [hE : EI P t enc sz bytes e] (d src : Sl α)
    (hds : a.eval s = .slice d.A d.xs.length d.c) (hsx : a.eval x = .slice src.A src.xs.length src.c) (tk : Take L (.sl enc sz e d) L') (hs : Rd enc sz w src) (h63 : d.xs.length + src.xs.length ≤ 8388608) (hbt : bytes ≤ 4096)
    (h : ∀ d' w', Hid (d'.xs = d.xs ++ src.xs) → Hp w0 w' (.sl enc sz e d' :: L') → K (a.put o.dst (.slice d'.A d'.xs.length d'.c)) w') : o.wp P a w K Q := by
  refine wp_append_Sl w hE.info s x ho 0 d hds (H.get tk) src hsx hs (by unfold maxLen; omega) ?_ (Nat.zero_le _) fun d' w' hx ho' hg hat => (h d' w' hx ?_)
  · exact Nat.le_trans (Nat.mul_le_mul h63 hbt) (by decide)
  · refine (H.take tk).turn (e' := .sl enc sz e d') (touch_grown hg) ho' ?_ (blk_nodup d')
    intro b hb
    rcases hat with hat | hat
    · left; simpa [En.sl, Sl.blk, hat] using hb
    · right; simp [En.sl, Sl.blk, hat] at hb; omega
theorem val_H {f : FuncId} {args : Array Value} {v : Value} (H : Hp w0 w L) (h : Calls P f args w (fun e w' => e = .returned v ∧ Hp w w' [])) : Calls P f args w (fun e w' => ∃ u, e = .returned u ∧ (u = v ∧ Hp w0 w' L)) :=
  h.mono fun _ _ ⟨he, K⟩ => ⟨_, he, rfl, H.add_all K⟩
end
set_option maxRecDepth 100000 in
set_option maxHeartbeats 4000000 in
theorem copyBare_c (B : BV) (W0 : World) (R : BRd W0 B) (Z : BBig B) : Calls Tryz.prog 113 #[B.val] W0 fun e w' => ∃ d : BV, e = .returned d.val ∧ d.m = B.m ∧ Hp W0 w' [.bare d] := by
  have z1 := Z.mem
  have z2 := Z.gs
  have z3 := Z.outs
  have H := Hp.start W0
  go_enter Tryz.func113, Tryz.ntmps113
  go_wp2_with (first
    | go_skip
    | (refine wpList_box_H rfl rfl H rfl (by constructor) ?_; clear H; intro bB w H)
    | (refine wpList_alloc_H rfl rfl H ?_; clear H; intro bR w H)
    | (refine wpList_load_H rfl rfl H rfl (by repeat constructor) ?_)
    | (refine wpList_loads_H rfl rfl H rfl (by repeat constructor) ?_)
    | (refine wpList_store_H rfl rfl H rfl rfl (by repeat constructor) ?_; clear H; intro w H))
  refine wp_cut (fun u a' w' => ∃ (d1 : Sl (Sl Int)) (d2 : Sl GV) (d3 : Sl Int), Hid (d1.xs.map (fun x => x.xs) = B.mem.xs.map (fun x => x.xs)) ∧ Hid (d2.xs.map (fun x => x.m) = B.gs.xs.map (fun x => x.m)) ∧ Hid (d3.xs = B.outs.xs) ∧ Hp W0 w' [.rows d1, .many En.int d1.xs, .gsl d2, .many En.gst d2.xs, .int d3, .box bR 28 [.slice d1.A d1.xs.length d1.c, .slice d2.A d2.xs.length d2.c, .slice d3.A d3.xs.length d3.c, .int .i64 B.pend]] ∧ a' = puts u [(3, .pointer (some ⟨bB, 0, none⟩)), (4, .slice B.mem.A B.mem.xs.length B.mem.c), (5, .slice d1.A d1.xs.length d1.c), (6, .pointer (some ⟨bB, 1, none⟩)), (7, .slice B.gs.A B.gs.xs.length B.gs.c), (8, .slice d2.A d2.xs.length d2.c), (9, .pointer (some ⟨bB, 2, none⟩)), (10, .slice B.outs.A B.outs.xs.length B.outs.c), (11, .slice d3.A d3.xs.length d3.c), (12, .pointer (some ⟨bB, 3, none⟩)), (13, .int .i64 B.pend), (14, (.agg #[.slice d1.A d1.xs.length d1.c, .slice d2.A d2.xs.length d2.c, .slice d3.A d3.xs.length d3.c, .int .i64 B.pend]))]) ?_ ?_
  · refine wp_region_held (S := (fun w' => Rw w' bB 28 (barr B))) (by kernel_rfl) ?_
    replace H := H.drew
    refine tkH (i := 0) rfl .here (yields_val (v := .pointer (some ⟨bB, 0, none⟩)) rfl (fun _ => by go_simp)) (H.rw_ (by repeat constructor)) ?_
    (try go_frame)
    refine tkH (i := 1) rfl (.of rfl) (yields_load1_R rfl rfl rfl (fun _ hS => hS) rfl) (H.rw_ (by repeat constructor)) ?_
    (try go_frame)
    refine tkH (i := 3) rfl (.of rfl) (yields_val (v := .pointer (some ⟨bB, 1, none⟩)) rfl (fun _ => by go_simp)) (H.rw_ (by repeat constructor)) ?_
    (try go_frame)
    refine tkH (i := 4) rfl (.of rfl) (yields_load1_R rfl rfl rfl (fun _ hS => hS) rfl) (H.rw_ (by repeat constructor)) ?_
    (try go_frame)
    refine tkH (i := 6) rfl (.of rfl) (yields_val (v := .pointer (some ⟨bB, 2, none⟩)) rfl (fun _ => by go_simp)) (H.rw_ (by repeat constructor)) ?_
    (try go_frame)
    refine tkH (i := 7) rfl (.of rfl) (yields_load1_R rfl rfl rfl (fun _ hS => hS) rfl) (H.rw_ (by repeat constructor)) ?_
    (try go_frame)
    refine tkH (i := 9) rfl (.of rfl) (yields_val (v := .pointer (some ⟨bB, 3, none⟩)) rfl (fun _ => by go_simp)) (H.rw_ (by repeat constructor)) ?_
    (try go_frame)
    refine tkH (i := 10) rfl (.of rfl) (yields_load1_R rfl rfl rfl (fun _ hS => hS) rfl) (H.rw_ (by repeat constructor)) ?_
    (try go_frame)
    refine anyH_1 (i := 2) (by kernel_rfl) ?_
    refine wpOp_at rfl (.of rfl) rfl ?_
    refine wp_call_H Tryz.f184 rfl rfl Tryz.func184 (by kernel_rfl) rfl rfl (made_H H (copyMem_c B.mem _ (R.mem.at_ H) (fun x hx => (R.memi x hx).at_ H) z1 Z.memi)) ?_
    clear H
    rintro _ w ⟨d1, rfl, h1, H⟩
    refine ⟨(H.rw_ (by repeat constructor)), ?_⟩
    (try go_frame)
    refine anyH_1 (i := 5) (by kernel_rfl) ?_
    refine wpOp_at rfl (.of rfl) rfl ?_
    refine wp_call_H Tryz.f185 rfl rfl Tryz.func185 (by kernel_rfl) rfl rfl (made_H H (copyGuests_c B.gs _ (R.gs.at_ H) (fun x hx => (R.gsi x hx).at_ H) z2 Z.gsi)) ?_
    clear H
    rintro _ w ⟨d2, rfl, h2, H⟩
    refine ⟨(H.rw_ (by repeat constructor)), ?_⟩
    (try go_frame)
    refine anyH_1 (i := 8) (by kernel_rfl) ?_
    refine wpOp_at rfl (.of rfl) rfl ?_
    refine wp_call_H Tryz.f186 rfl rfl Tryz.func186 (by kernel_rfl) rfl rfl (madesl_H H (copyInts_any B.outs _ (R.outs.at_ H) (by unfold big; exact z3))) ?_
    clear H
    rintro _ w ⟨d3, rfl, h3, H⟩
    refine ⟨(H.rw_ (by repeat constructor)), ?_⟩
    (try go_frame)
    refine anyH_1 (i := 11) (by kernel_rfl) ?_
    refine wpOp_at rfl (.of rfl) rfl ?_
    refine wp_of_val (v := (.agg #[.slice d1.A d1.xs.length d1.c, .slice d2.A d2.xs.length d2.c, .slice d3.A d3.xs.length d3.c, .int .i64 B.pend])) (by go_simp) ?_
    refine ⟨(H.rw_ (by repeat constructor)), ?_⟩
    (try go_frame)
    refine anyH_1 (i := 12) (by kernel_rfl) ?_
    refine wpOp_at rfl (.of rfl) rfl ?_
    refine wp_store_H rfl H rfl rfl (by repeat constructor) ?_
    clear H
    intro w H
    refine ⟨(H.rw_ (by repeat constructor)), ?_⟩
    (try go_frame)
    refine wpAnyH_done (by kernel_rfl) ?_ _
    exact ⟨rfl, d1, d2, d3, h1, h2, h3, H.pick (.cons (by repeat constructor) (.cons (by repeat constructor) (.cons (by repeat constructor) (.cons (by repeat constructor) (.cons (by repeat constructor) (.cons (by repeat constructor) .nil)))))), by first | (simp only [puts_cons, puts_nil, Act.put, List.setIfInBounds_toArray, List.set_cons_succ, List.set_cons_zero]; done) | (simp only [puts_cons, puts_nil, Act.put, List.setIfInBounds_toArray, List.set_cons_succ, List.set_cons_zero]; rfl)⟩
  clear H
  rintro u w ⟨d1, d2, d3, h1, h2, h3, H, rfl⟩
  simp only [puts_cons, puts_nil, Act.put, List.setIfInBounds_toArray, List.set_cons_succ, List.set_cons_zero]
  go_wp2
  refine bodyPost_ret (results_H rfl H rfl (by repeat constructor)) rfl ⟨⟨d1, d2, d3, B.pend⟩, rfl, ?_, H.bare5 (.cons (by repeat constructor) (.cons (by repeat constructor) (.cons (by repeat constructor) (.cons (by repeat constructor) (.cons (by repeat constructor) .nil))))) rfl rfl⟩
  simp only [BV.m, memOf, gsOf]
  rw [h1.out, h2.out, h3.out]
set_option maxRecDepth 100000 in
set_option maxHeartbeats 4000000 in
theorem l17Copy_c (B : BV) (W0 : World) (R : BRd W0 B) (Z : BBig B) : Calls Tryz.prog 76 #[B.val] W0 fun e w' => ∃ d : BV, e = .returned d.val ∧ d.m = B.m ∧ Hp W0 w' [.bare d] := by
  have z1 := Z.mem
  have z2 := Z.gs
  have z3 := Z.outs
  have H := Hp.start W0
  go_enter Tryz.func76, Tryz.ntmps76
  go_wp2_with (first
    | go_skip
    | (refine wpList_box_H rfl rfl H rfl (by constructor) ?_; clear H; intro bB w H)
    | (refine wpList_alloc_H rfl rfl H ?_; clear H; intro bR w H)
    | (refine wpList_load_H rfl rfl H rfl (by repeat constructor) ?_)
    | (refine wpList_loads_H rfl rfl H rfl (by repeat constructor) ?_)
    | (refine wpList_store_H rfl rfl H rfl rfl (by repeat constructor) ?_; clear H; intro w H))
  refine wp_cut (fun u a' w' => ∃ (bn : Nat) (d1 : Sl (Sl Int)) (d2 : Sl GV) (d3 : Sl Int), Hid (d1.xs.map (fun x => x.xs) = B.mem.xs.map (fun x => x.xs)) ∧ Hid (d2.xs.map (fun x => x.m) = B.gs.xs.map (fun x => x.m)) ∧ Hid (d3.xs = B.outs.xs) ∧ Hp W0 w' [.rows d1, .many En.int d1.xs, .gsl d2, .many En.gst d2.xs, .int d3, .box bR 28 [.slice d1.A d1.xs.length d1.c, .slice d2.A d2.xs.length d2.c, .slice d3.A d3.xs.length d3.c, .int .i64 B.pend]] ∧ a' = puts u [(3, .pointer (some ⟨bB, 0, none⟩)), (4, .slice B.mem.A B.mem.xs.length B.mem.c), (5, .slice d1.A d1.xs.length d1.c), (6, .pointer (some ⟨bB, 1, none⟩)), (7, .slice B.gs.A B.gs.xs.length B.gs.c), (8, .slice d2.A d2.xs.length d2.c), (9, .slice (some ⟨bn, 0, none⟩) 0 0), (10, .pointer (some ⟨bB, 2, none⟩)), (11, .slice B.outs.A B.outs.xs.length B.outs.c), (12, .slice d3.A d3.xs.length d3.c), (13, .pointer (some ⟨bB, 3, none⟩)), (14, .int .i64 B.pend), (15, (.agg #[.slice d1.A d1.xs.length d1.c, .slice d2.A d2.xs.length d2.c, .slice d3.A d3.xs.length d3.c, .int .i64 B.pend]))]) ?_ ?_
  · refine wp_region_held (S := (fun w' => Rw w' bB 28 (barr B))) (by kernel_rfl) ?_
    replace H := H.drew
    refine tkH (i := 0) rfl .here (yields_val (v := .pointer (some ⟨bB, 0, none⟩)) rfl (fun _ => by go_simp)) (H.rw_ (by repeat constructor)) ?_
    (try go_frame)
    refine tkH (i := 1) rfl (.of rfl) (yields_load1_R rfl rfl rfl (fun _ hS => hS) rfl) (H.rw_ (by repeat constructor)) ?_
    (try go_frame)
    refine tkH (i := 3) rfl (.of rfl) (yields_val (v := .pointer (some ⟨bB, 1, none⟩)) rfl (fun _ => by go_simp)) (H.rw_ (by repeat constructor)) ?_
    (try go_frame)
    refine tkH (i := 4) rfl (.of rfl) (yields_load1_R rfl rfl rfl (fun _ hS => hS) rfl) (H.rw_ (by repeat constructor)) ?_
    (try go_frame)
    refine tkH (i := 7) rfl (.of rfl) (yields_val (v := .pointer (some ⟨bB, 2, none⟩)) rfl (fun _ => by go_simp)) (H.rw_ (by repeat constructor)) ?_
    (try go_frame)
    refine tkH (i := 8) rfl (.of rfl) (yields_load1_R rfl rfl rfl (fun _ hS => hS) rfl) (H.rw_ (by repeat constructor)) ?_
    (try go_frame)
    refine tkH (i := 10) rfl (.of rfl) (yields_val (v := .pointer (some ⟨bB, 3, none⟩)) rfl (fun _ => by go_simp)) (H.rw_ (by repeat constructor)) ?_
    (try go_frame)
    refine tkH (i := 11) rfl (.of rfl) (yields_load1_R rfl rfl rfl (fun _ hS => hS) rfl) (H.rw_ (by repeat constructor)) ?_
    (try go_frame)
    refine anyH_2 (i := 2) (j := 6) (by kernel_rfl) ?_ ?_
    · refine wpOp_at rfl (.of rfl) rfl ?_
      refine wp_call_H Tryz.f169 rfl rfl Tryz.func169 (by kernel_rfl) rfl rfl (made_H H (l04Copy_c B.mem _ (R.mem.at_ H) (fun x hx => (R.memi x hx).at_ H) z1 Z.memi)) ?_
      clear H
      rintro _ w ⟨d1, rfl, h1, H⟩
      refine ⟨(H.rw_ (by repeat constructor)), ?_⟩
      (try go_frame)
      refine anyH_2 (i := 5) (j := 6) (by kernel_rfl) ?_ ?_
      · refine wpOp_at rfl (.of rfl) rfl ?_
        refine wp_call_H Tryz.f170 rfl rfl Tryz.func170 (by kernel_rfl) rfl rfl (made_H H (l17Guests_c B.gs _ (R.gs.at_ H) (fun x hx => (R.gsi x hx).at_ H) z2 Z.gsi)) ?_
        clear H
        rintro _ w ⟨d2, rfl, h2, H⟩
        refine ⟨(H.rw_ (by repeat constructor)), ?_⟩
        (try go_frame)
        refine anyH_1 (i := 6) (by kernel_rfl) ?_
        refine wpOp_at rfl (.of rfl) rfl ?_
        refine wp_nil_H rfl H ?_
        clear H
        intro bn w H
        refine ⟨(H.rw_ (by repeat constructor)), ?_⟩
        (try go_frame)
        refine anyH_1 (i := 9) (by kernel_rfl) ?_
        refine wpOp_at rfl (.of rfl) rfl ?_
        refine wp_append_H rfl H (⟨some ⟨bn, 0, none⟩, 0, []⟩ : Sl Int) B.outs rfl rfl (by repeat constructor) (R.outs.at_ H) (by simp only [List.length_nil]; omega) (by decide) ?_
        clear H
        intro d3 w h3 H
        replace h3 := nil_app h3
        refine ⟨(H.rw_ (by repeat constructor)), ?_⟩
        (try go_frame)
        refine anyH_1 (i := 12) (by kernel_rfl) ?_
        refine wpOp_at rfl (.of rfl) rfl ?_
        refine wp_of_val (v := (.agg #[.slice d1.A d1.xs.length d1.c, .slice d2.A d2.xs.length d2.c, .slice d3.A d3.xs.length d3.c, .int .i64 B.pend])) (by go_simp) ?_
        refine ⟨(H.rw_ (by repeat constructor)), ?_⟩
        (try go_frame)
        refine anyH_1 (i := 13) (by kernel_rfl) ?_
        refine wpOp_at rfl (.of rfl) rfl ?_
        refine wp_store_H rfl H rfl rfl (by repeat constructor) ?_
        clear H
        intro w H
        refine ⟨(H.rw_ (by repeat constructor)), ?_⟩
        (try go_frame)
        refine wpAnyH_done (by kernel_rfl) ?_ _
        exact ⟨rfl, bn, d1, d2, d3, h1, h2, h3, H.pick (.cons (by repeat constructor) (.cons (by repeat constructor) (.cons (by repeat constructor) (.cons (by repeat constructor) (.cons (by repeat constructor) (.cons (by repeat constructor) .nil)))))), by first | (simp only [puts_cons, puts_nil, Act.put, List.setIfInBounds_toArray, List.set_cons_succ, List.set_cons_zero]; done) | (simp only [puts_cons, puts_nil, Act.put, List.setIfInBounds_toArray, List.set_cons_succ, List.set_cons_zero]; rfl)⟩
      · refine wpOp_at rfl (.of rfl) rfl ?_
        refine wp_nil_H rfl H ?_
        clear H
        intro bn w H
        refine ⟨(H.rw_ (by repeat constructor)), ?_⟩
        (try go_frame)
        refine anyH_1 (i := 5) (by kernel_rfl) ?_
        refine wpOp_at rfl (.of rfl) rfl ?_
        refine wp_call_H Tryz.f170 rfl rfl Tryz.func170 (by kernel_rfl) rfl rfl (made_H H (l17Guests_c B.gs _ (R.gs.at_ H) (fun x hx => (R.gsi x hx).at_ H) z2 Z.gsi)) ?_
        clear H
        rintro _ w ⟨d2, rfl, h2, H⟩
        refine ⟨(H.rw_ (by repeat constructor)), ?_⟩
        (try go_frame)
        refine anyH_1 (i := 9) (by kernel_rfl) ?_
        refine wpOp_at rfl (.of rfl) rfl ?_
        refine wp_append_H rfl H (⟨some ⟨bn, 0, none⟩, 0, []⟩ : Sl Int) B.outs rfl rfl (by repeat constructor) (R.outs.at_ H) (by simp only [List.length_nil]; omega) (by decide) ?_
        clear H
        intro d3 w h3 H
        replace h3 := nil_app h3
        refine ⟨(H.rw_ (by repeat constructor)), ?_⟩
        (try go_frame)
        refine anyH_1 (i := 12) (by kernel_rfl) ?_
        refine wpOp_at rfl (.of rfl) rfl ?_
        refine wp_of_val (v := (.agg #[.slice d1.A d1.xs.length d1.c, .slice d2.A d2.xs.length d2.c, .slice d3.A d3.xs.length d3.c, .int .i64 B.pend])) (by go_simp) ?_
        refine ⟨(H.rw_ (by repeat constructor)), ?_⟩
        (try go_frame)
        refine anyH_1 (i := 13) (by kernel_rfl) ?_
        refine wpOp_at rfl (.of rfl) rfl ?_
        refine wp_store_H rfl H rfl rfl (by repeat constructor) ?_
        clear H
        intro w H
        refine ⟨(H.rw_ (by repeat constructor)), ?_⟩
        (try go_frame)
        refine wpAnyH_done (by kernel_rfl) ?_ _
        exact ⟨rfl, bn, d1, d2, d3, h1, h2, h3, H.pick (.cons (by repeat constructor) (.cons (by repeat constructor) (.cons (by repeat constructor) (.cons (by repeat constructor) (.cons (by repeat constructor) (.cons (by repeat constructor) .nil)))))), by first | (simp only [puts_cons, puts_nil, Act.put, List.setIfInBounds_toArray, List.set_cons_succ, List.set_cons_zero]; done) | (simp only [puts_cons, puts_nil, Act.put, List.setIfInBounds_toArray, List.set_cons_succ, List.set_cons_zero]; rfl)⟩
    · refine wpOp_at rfl (.of rfl) rfl ?_
      refine wp_nil_H rfl H ?_
      clear H
      intro bn w H
      refine ⟨(H.rw_ (by repeat constructor)), ?_⟩
      (try go_frame)
      refine anyH_1 (i := 2) (by kernel_rfl) ?_
      refine wpOp_at rfl (.of rfl) rfl ?_
      refine wp_call_H Tryz.f169 rfl rfl Tryz.func169 (by kernel_rfl) rfl rfl (made_H H (l04Copy_c B.mem _ (R.mem.at_ H) (fun x hx => (R.memi x hx).at_ H) z1 Z.memi)) ?_
      clear H
      rintro _ w ⟨d1, rfl, h1, H⟩
      refine ⟨(H.rw_ (by repeat constructor)), ?_⟩
      (try go_frame)
      refine anyH_1 (i := 5) (by kernel_rfl) ?_
      refine wpOp_at rfl (.of rfl) rfl ?_
      refine wp_call_H Tryz.f170 rfl rfl Tryz.func170 (by kernel_rfl) rfl rfl (made_H H (l17Guests_c B.gs _ (R.gs.at_ H) (fun x hx => (R.gsi x hx).at_ H) z2 Z.gsi)) ?_
      clear H
      rintro _ w ⟨d2, rfl, h2, H⟩
      refine ⟨(H.rw_ (by repeat constructor)), ?_⟩
      (try go_frame)
      refine anyH_1 (i := 9) (by kernel_rfl) ?_
      refine wpOp_at rfl (.of rfl) rfl ?_
      refine wp_append_H rfl H (⟨some ⟨bn, 0, none⟩, 0, []⟩ : Sl Int) B.outs rfl rfl (by repeat constructor) (R.outs.at_ H) (by simp only [List.length_nil]; omega) (by decide) ?_
      clear H
      intro d3 w h3 H
      replace h3 := nil_app h3
      refine ⟨(H.rw_ (by repeat constructor)), ?_⟩
      (try go_frame)
      refine anyH_1 (i := 12) (by kernel_rfl) ?_
      refine wpOp_at rfl (.of rfl) rfl ?_
      refine wp_of_val (v := (.agg #[.slice d1.A d1.xs.length d1.c, .slice d2.A d2.xs.length d2.c, .slice d3.A d3.xs.length d3.c, .int .i64 B.pend])) (by go_simp) ?_
      refine ⟨(H.rw_ (by repeat constructor)), ?_⟩
      (try go_frame)
      refine anyH_1 (i := 13) (by kernel_rfl) ?_
      refine wpOp_at rfl (.of rfl) rfl ?_
      refine wp_store_H rfl H rfl rfl (by repeat constructor) ?_
      clear H
      intro w H
      refine ⟨(H.rw_ (by repeat constructor)), ?_⟩
      (try go_frame)
      refine wpAnyH_done (by kernel_rfl) ?_ _
      exact ⟨rfl, bn, d1, d2, d3, h1, h2, h3, H.pick (.cons (by repeat constructor) (.cons (by repeat constructor) (.cons (by repeat constructor) (.cons (by repeat constructor) (.cons (by repeat constructor) (.cons (by repeat constructor) .nil)))))), by first | (simp only [puts_cons, puts_nil, Act.put, List.setIfInBounds_toArray, List.set_cons_succ, List.set_cons_zero]; done) | (simp only [puts_cons, puts_nil, Act.put, List.setIfInBounds_toArray, List.set_cons_succ, List.set_cons_zero]; rfl)⟩
  clear H
  rintro u w ⟨bn, d1, d2, d3, h1, h2, h3, H, rfl⟩
  simp only [puts_cons, puts_nil, Act.put, List.setIfInBounds_toArray, List.set_cons_succ, List.set_cons_zero]
  go_wp2
  refine bodyPost_ret (results_H rfl H rfl (by repeat constructor)) rfl ⟨⟨d1, d2, d3, B.pend⟩, rfl, ?_, H.bare5 (.cons (by repeat constructor) (.cons (by repeat constructor) (.cons (by repeat constructor) (.cons (by repeat constructor) (.cons (by repeat constructor) .nil))))) rfl rfl⟩
  simp only [BV.m, memOf, gsOf]
  rw [h1.out, h2.out, h3.out]
end Go.Proofs.YtaafnenmdombiaaGreat
