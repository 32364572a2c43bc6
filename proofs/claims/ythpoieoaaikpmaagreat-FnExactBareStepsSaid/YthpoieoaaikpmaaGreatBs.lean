/- The laws' own sizes and comparisons on slices of slices, of guests, and on bare machines. No condition but that the arguments lie in memory. -/
import Derived.Test.YthpoieoaaikpmaaGreatBl
import Derived.Test.YthpoieoaaikpmaaGreatEq
namespace Go.Proofs.YthpoieoaaikpmaaGreat
set_option linter.unusedSimpArgs false
set_option linter.unusedVariables false
open Go.RowKit
theorem sum_take_succ {α : Type} {f : α → Nat} {l : List α} {k : Nat} {y : α} (hy : l[k]? = some y) : ((l.take (k + 1)).map f).sum = ((l.take k).map f).sum + f y := by
  rw [List.take_add_one, hy]; simp
theorem sum_take_le {α : Type} {f : α → Nat} {l : List α} {k : Nat} : ((l.take k).map f).sum ≤ (l.map f).sum := by
  have h : (l.map f).sum = ((l.take k).map f).sum + ((l.drop k).map f).sum := by
    rw [← List.sum_append, ← List.map_append, List.take_append_drop]
  omega
theorem szG_M (left : Int) (g : MG) : szG left g = szM left g.size := by
  unfold szG szM MG.size
  repeat' split
  all_goals (try unfold szM at *); (try split at *); (try omega)
theorem szM_neg {left : Int} {n : Nat} (h : left - n < 0) : szM left n = -1 := by unfold szM; rw [if_pos h]
theorem szM_pos {left : Int} {n : Nat} (h : ¬ left - n < 0) : szM left n = left - n := by unfold szM; rw [if_neg h]
theorem szGuest2_any (g : GV) (left : Int) (w : World) (hz : GWide g) (h0 : 0 ≤ left) (h1 : left ≤ 1048576) : Calls Tryz.prog 78 #[.agg #[.slice g.prog.A g.prog.xs.length g.prog.c, .int .i64 g.a, .int .i64 g.pc, .slice g.written.A g.written.xs.length g.written.c, .slice g.live.A g.live.xs.length g.live.c,
    .int .i64 g.ctl.traps, .int .i64 g.ctl.post, .bool g.ctl.opn, .int .i64 g.pending, .int .i64 g.exit.kind, .int .i64 g.exit.page, .bool g.exit.write, .int .i64 g.exit.n, .bool g.halted, .slice g.seen.A g.seen.xs.length g.seen.c], .int .i64 left] w fun e w' => e = .returned (.int .i64 (szM left g.m.size)) ∧ Below w.heap.size w w' := by
  rw [← szG_M]; exact szGuest_any g left w hz h0 h1
theorem szInt2_any (s : Sl Int) (left : Int) (w : World) (hl : s.xs.length ≤ maxLen) (h0 : 0 ≤ left) (h1 : left ≤ 1048576) : Calls Tryz.prog 22 #[.slice s.A s.xs.length s.c, .int .i64 left] w fun e w' => e = .returned (.int .i64 (szM left s.xs.length)) ∧ Below w.heap.size w w' :=
  (szIntS_any s left w hl h0 h1).mono fun _ _ ⟨he, hw⟩ => ⟨he, hw ▸ Below.refl _ _⟩
theorem szIns2_any (s : Sl Ins) (left : Int) (w : World) (hl : s.xs.length ≤ maxLen) (h0 : 0 ≤ left) (h1 : left ≤ 1048576) : Calls Tryz.prog 120 #[.slice s.A s.xs.length s.c, .int .i64 left] w fun e w' => e = .returned (.int .i64 (szM left s.xs.length)) ∧ Below w.heap.size w w' :=
  (szInsS_any s left w hl h0 h1).mono fun _ _ ⟨he, hw⟩ => ⟨he, hw ▸ Below.refl _ _⟩
set_option linter.unusedSimpArgs false in
set_option linter.unusedVariables false in
set_option maxRecDepth 100000 in
set_option maxHeartbeats 2000000 in
theorem szIntSS_c (s : Sl (Sl Int)) (left : Int) (W0 : World) (R : Rd hcells 1 W0 s) (Z : s.xs.length ≤ maxLen) (Zi : ∀ x ∈ s.xs, x.xs.length ≤ maxLen) (h0 : 0 ≤ left) (h1 : left ≤ 1048576) : Calls Tryz.prog 20 #[.slice s.A s.xs.length s.c, .int .i64 left] W0 fun e w' => e = .returned (.int .i64 (szM left (s.xs.length + (s.xs.map (fun x => x.xs.length)).sum))) ∧ Hp W0 w' [] := by
  unfold maxLen at Z
  by_cases hn : left - s.xs.length < 0
  · go_enter Tryz.func20, Tryz.ntmps20
    go_wp2
    go_ret
    exact ⟨ret_int (by rw [szM_neg (by omega)]), Hp.start W0⟩
  obtain ⟨l0, hl0⟩ : ∃ l0 : Int, l0 = left - s.xs.length := ⟨_, rfl⟩
  have hl1 : 0 ≤ l0 := by omega
  have hl2 : l0 ≤ 1048576 := by omega
  have H := Hp.start W0
  go_enter Tryz.func20, Tryz.ntmps20
  go_wp2
  rw [← hl0]
  have HL0 := Lib.hid hl0
  clear hl0
  go_loopw [1, 5] (fun lv i wr => ∃ (k : Nat) (v : Int), k ≤ s.xs.length ∧ i = .int .i64 k ∧ lv = .int .i64 v ∧ 0 ≤ v ∧ v ≤ 1048576 ∧ v + ((s.xs.take k).map (fun x => x.xs.length)).sum = l0 ∧ Hp W0 wr []) (fun _ i _ => s.xs.length - (intOf i).toNat)
  case atStart => exact ⟨0, l0, by omega, rfl, rfl, hl1, hl2, by simp, H⟩
  case round =>
    clear H
    obtain ⟨k, v, hk0, rfl, rfl, hv0, hv1, hvs, H⟩ := hrel
    have HV := Lib.hid hvs; clear hvs
    by_cases hk : k < s.xs.length
    · obtain ⟨y, hy0⟩ : ∃ y, s.xs[k]? = some y := ⟨_, List.getElem?_eq_getElem hk⟩
      have HY := Lib.hid hy0; clear hy0
      have ZY := Lib.hid (Zi y (List.mem_of_getElem? HY.out))
      obtain ⟨n, hn'⟩ : ∃ n : Nat, n = (fun x => x.xs.length) y := ⟨_, rfl⟩
      have HN : Hid (n = (fun x => x.xs.length) y) := hn'
      clear hn'
      by_cases hneg : v - n < 0
      · have HS : Hid (szM v ((fun x => x.xs.length) y) = -1) := by show szM v ((fun x => x.xs.length) y) = -1; rw [← HN.out]; exact szM_neg hneg
        go_wp2_with (first
          | go_skip
          | (refine wpList_index_n rfl rfl s (R.at_ H) rfl rfl rfl hk ?_)
          | (refine wpList_load_rd rfl rfl s (R.at_ H) rfl y HY.out rfl ?_)
          | (go_at_call 22; refine (szInt2_any y v _ ZY.out hv0 hv1).mono ?_; rintro e w ⟨he, hb⟩; rw [HS.out] at he; subst he; replace H := H.still hb; clear hb))
        go_ret
        refine ⟨ret_int ?_, H⟩
        have h2 := sum_take_succ (f := fun x => x.xs.length) HY.out
        have h3 := sum_take_le (f := fun x => x.xs.length) (l := s.xs) (k := k + 1)
        have h4 := HV.out
        have h5 := HN.out
        have h6 := HL0.out
        rw [szM_neg (by omega)]
      · have HS : Hid (szM v ((fun x => x.xs.length) y) = v - n) := by show szM v ((fun x => x.xs.length) y) = v - n; rw [← HN.out]; exact szM_pos hneg
        obtain ⟨v', hv'⟩ : ∃ v', v' = v - n := ⟨_, rfl⟩
        have hv'0 : 0 ≤ v' := by omega
        have hv'1 : v' ≤ 1048576 := by omega
        have HW := Lib.hid hv'
        clear hv'
        go_wp2_with (first
          | go_skip
          | (refine wpList_index_n rfl rfl s (R.at_ H) rfl rfl rfl hk ?_)
          | (refine wpList_load_rd rfl rfl s (R.at_ H) rfl y HY.out rfl ?_)
          | (go_at_call 22; refine (szInt2_any y v _ ZY.out hv0 hv1).mono ?_; rintro e w ⟨he, hb⟩; rw [HS.out, ← HW.out] at he; subst he; replace H := H.still hb; clear hb))
        go_roundw
        case rel =>
          refine ⟨k + 1, v', by omega, by go_num, rfl, hv'0, hv'1, ?_, H⟩
          have h2 := sum_take_succ (f := fun x => x.xs.length) HY.out
          have h4 := HV.out
          have h5 := HN.out
          have h6 := HW.out
          omega
        case measure => simp [intOf]; omega
    · have hke : k = s.xs.length := by omega
      subst hke
      go_wp2
      go_ret
      refine ⟨ret_int ?_, H⟩
      have h4 := HV.out
      rw [List.take_length] at h4
      have h6 := HL0.out
      rw [szM_pos (by omega)]
      omega
set_option linter.unusedSimpArgs false in
set_option linter.unusedVariables false in
set_option maxRecDepth 100000 in
set_option maxHeartbeats 2000000 in
theorem szGuestS_c (s : Sl (GV)) (left : Int) (W0 : World) (R : Rd GV.cells 15 W0 s) (Z : s.xs.length ≤ maxLen) (Zi : ∀ x ∈ s.xs, GWide x) (h0 : 0 ≤ left) (h1 : left ≤ 1048576) : Calls Tryz.prog 21 #[.slice s.A s.xs.length s.c, .int .i64 left] W0 fun e w' => e = .returned (.int .i64 (szM left (s.xs.length + (s.xs.map (fun x => x.m.size)).sum))) ∧ Hp W0 w' [] := by
  unfold maxLen at Z
  by_cases hn : left - s.xs.length < 0
  · go_enter Tryz.func21, Tryz.ntmps21
    go_wp2
    go_ret
    exact ⟨ret_int (by rw [szM_neg (by omega)]), Hp.start W0⟩
  obtain ⟨l0, hl0⟩ : ∃ l0 : Int, l0 = left - s.xs.length := ⟨_, rfl⟩
  have hl1 : 0 ≤ l0 := by omega
  have hl2 : l0 ≤ 1048576 := by omega
  have H := Hp.start W0
  go_enter Tryz.func21, Tryz.ntmps21
  go_wp2
  rw [← hl0]
  have HL0 := Lib.hid hl0
  clear hl0
  go_loopw [1, 5] (fun lv i wr => ∃ (k : Nat) (v : Int), k ≤ s.xs.length ∧ i = .int .i64 k ∧ lv = .int .i64 v ∧ 0 ≤ v ∧ v ≤ 1048576 ∧ v + ((s.xs.take k).map (fun x => x.m.size)).sum = l0 ∧ Hp W0 wr []) (fun _ i _ => s.xs.length - (intOf i).toNat)
  case atStart => exact ⟨0, l0, by omega, rfl, rfl, hl1, hl2, by simp, H⟩
  case round =>
    clear H
    obtain ⟨k, v, hk0, rfl, rfl, hv0, hv1, hvs, H⟩ := hrel
    have HV := Lib.hid hvs; clear hvs
    by_cases hk : k < s.xs.length
    · obtain ⟨y, hy0⟩ : ∃ y, s.xs[k]? = some y := ⟨_, List.getElem?_eq_getElem hk⟩
      have HY := Lib.hid hy0; clear hy0
      have ZY := Lib.hid (Zi y (List.mem_of_getElem? HY.out))
      obtain ⟨n, hn'⟩ : ∃ n : Nat, n = (fun x => x.m.size) y := ⟨_, rfl⟩
      have HN : Hid (n = (fun x => x.m.size) y) := hn'
      clear hn'
      by_cases hneg : v - n < 0
      · have HS : Hid (szM v ((fun x => x.m.size) y) = -1) := by show szM v ((fun x => x.m.size) y) = -1; rw [← HN.out]; exact szM_neg hneg
        go_wp2_with (first
          | go_skip
          | (refine wpList_index_n rfl rfl s (R.at_ H) rfl rfl rfl hk ?_)
          | (refine wpList_loads_rd rfl rfl s (R.at_ H) rfl y HY.out (by repeat (first | exact GetsAt.nil | apply GetsAt.here | apply GetsAt.there)) ?_)
          | (go_at_call 78; refine (szGuest2_any y v _ ZY.out hv0 hv1).mono ?_; rintro e w ⟨he, hb⟩; rw [HS.out] at he; subst he; replace H := H.still hb; clear hb))
        go_ret
        refine ⟨ret_int ?_, H⟩
        have h2 := sum_take_succ (f := fun x => x.m.size) HY.out
        have h3 := sum_take_le (f := fun x => x.m.size) (l := s.xs) (k := k + 1)
        have h4 := HV.out
        have h5 := HN.out
        have h6 := HL0.out
        rw [szM_neg (by omega)]
      · have HS : Hid (szM v ((fun x => x.m.size) y) = v - n) := by show szM v ((fun x => x.m.size) y) = v - n; rw [← HN.out]; exact szM_pos hneg
        obtain ⟨v', hv'⟩ : ∃ v', v' = v - n := ⟨_, rfl⟩
        have hv'0 : 0 ≤ v' := by omega
        have hv'1 : v' ≤ 1048576 := by omega
        have HW := Lib.hid hv'
        clear hv'
        go_wp2_with (first
          | go_skip
          | (refine wpList_index_n rfl rfl s (R.at_ H) rfl rfl rfl hk ?_)
          | (refine wpList_loads_rd rfl rfl s (R.at_ H) rfl y HY.out (by repeat (first | exact GetsAt.nil | apply GetsAt.here | apply GetsAt.there)) ?_)
          | (go_at_call 78; refine (szGuest2_any y v _ ZY.out hv0 hv1).mono ?_; rintro e w ⟨he, hb⟩; rw [HS.out, ← HW.out] at he; subst he; replace H := H.still hb; clear hb))
        go_roundw
        case rel =>
          refine ⟨k + 1, v', by omega, by go_num, rfl, hv'0, hv'1, ?_, H⟩
          have h2 := sum_take_succ (f := fun x => x.m.size) HY.out
          have h4 := HV.out
          have h5 := HN.out
          have h6 := HW.out
          omega
        case measure => simp [intOf]; omega
    · have hke : k = s.xs.length := by omega
      subst hke
      go_wp2
      go_ret
      refine ⟨ret_int ?_, H⟩
      have h4 := HV.out
      rw [List.take_length] at h4
      have h6 := HL0.out
      rw [szM_pos (by omega)]
      omega
end Go.Proofs.YthpoieoaaikpmaaGreat
