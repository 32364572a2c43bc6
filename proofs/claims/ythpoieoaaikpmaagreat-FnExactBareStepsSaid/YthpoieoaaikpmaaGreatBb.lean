/- The laws' own makers, sizes and comparisons on bare machines. No condition but that the arguments lie in memory. -/
import Derived.Test.YthpoieoaaikpmaaGreatBq
namespace Go.Proofs.YthpoieoaaikpmaaGreat
set_option linter.unusedSimpArgs false
set_option linter.unusedVariables false
open Go.RowKit
structure BWide (B : BV) : Prop where
  mem : B.mem.xs.length ≤ maxLen
  memi : ∀ s ∈ B.mem.xs, s.xs.length ≤ maxLen
  gs : B.gs.xs.length ≤ maxLen
  gsi : ∀ g ∈ B.gs.xs, GWide g
  outs : B.outs.xs.length ≤ maxLen
theorem rowsSize_of (s : Sl (Sl Int)) : s.xs.length + (s.xs.map (fun x => x.xs.length)).sum = rowsSize (memOf s) := by simp [rowsSize, memOf, List.map_map, Function.comp_def]
theorem gsSize_of (s : Sl GV) : s.xs.length + (s.xs.map (fun x => x.m.size)).sum = gsSize (gsOf s) := by simp [gsSize, gsOf, List.map_map, Function.comp_def]
theorem szM_split {left : Int} {a b c : Nat} (h : left - a < 0) : szM left (a + b + c) = -1 := szM_neg (by omega)
theorem meqB (B C : BV) : (B.m == C.m) = ((B.mem.xs.map (fun x => x.xs) == C.mem.xs.map (fun x => x.xs)) && (B.gs.xs.map (fun x => x.m) == C.gs.xs.map (fun x => x.m)) && (B.outs.xs == C.outs.xs) && (B.pend == C.pend)) := by
  rw [Bool.eq_iff_iff]
  simp [BV.m, memOf, gsOf, and_assoc]
set_option linter.unusedSimpArgs false in
set_option linter.unusedVariables false in
set_option maxRecDepth 100000 in
set_option maxHeartbeats 4000000 in
theorem toBare_c (B : BV) (W0 : World) (R : BRd W0 B) (Z : BBig B) : Calls Tryz.prog 7 #[B.val] W0 fun e w' => ∃ d : BV, e = .returned d.val ∧ d.m = B.m ∧ Hp W0 w' [.bare d] := by
  have z1 := Z.mem
  have z2 := Z.gs
  have z3 := Z.outs
  have H := Hp.start W0
  go_enter Tryz.func7, Tryz.ntmps7
  go_wp2_with (first
    | go_skip
    | (refine wpList_box_H rfl rfl H rfl (by first | exact CellsOf.agg | exact CellsOf.int | exact CellsOf.bool | exact CellsOf.slice | exact CellsOf.string | exact CellsOf.pointer | exact CellsOf.func) ?_; clear H; intro b w H)
    | (refine wpList_alloc_H rfl rfl H ?_; clear H; intro b w H)
    | (refine wpList_load_H rfl rfl H rfl (by repeat (first | exact LoadAt.here rfl | apply LoadAt.there)) ?_)
    | (refine wpList_loads_H rfl rfl H rfl (by repeat (first | (apply LoadsAt.here; repeat (first | exact GetsAt.nil | apply GetsAt.here | apply GetsAt.there)) | apply LoadsAt.there)) ?_)
    | (refine wpList_store_H rfl rfl H rfl rfl (by repeat (first | (apply StoreAt.here; (first | exact CellsOf.agg | exact CellsOf.int | exact CellsOf.bool | exact CellsOf.slice | exact CellsOf.string | exact CellsOf.pointer | exact CellsOf.func); (repeat (first | exact SetsAt.nil | apply SetsAt.here | apply SetsAt.there)); exact rfl; exact rfl) | apply StoreAt.there)) ?_; clear H; intro w H)
    | (go_at_call 43; refine (toIntSS_c B.mem _ (R.mem.at_ H) (fun x hx => (R.memi x hx).at_ H) z1 Z.memi).mono ?_; rintro e w ⟨d1, rfl, x1, K⟩; have h1 := Lib.hid x1; clear x1; replace H := H.add_all K; clear K)
    | (go_at_call 44; refine (toGuestS_c B.gs _ (R.gs.at_ H) (fun x hx => (R.gsi x hx).at_ H) z2 Z.gsi).mono ?_; rintro e w ⟨d2, rfl, x1, K⟩; have h2 := Lib.hid x1; clear x1; replace H := H.add_all K; clear K)
    | (go_at_call 13; refine (toIntS_any B.outs _ (R.outs.at_ H) (by unfold big; exact z3)).mono ?_; rintro e w ⟨d3, rfl, x1, ho, hb⟩; have h3 := Lib.hid x1; clear x1; replace H := H.add_sl ho hb; clear ho hb))
  refine bodyPost_ret (results_H rfl H rfl (by repeat (first | (apply LoadsAt.here; repeat (first | exact GetsAt.nil | apply GetsAt.here | apply GetsAt.there)) | apply LoadsAt.there))) rfl ⟨⟨d1, d2, d3, B.pend⟩, rfl, ?_, H.bare5 (.cons (by repeat (first | exact Take.head | apply Take.tail)) (.cons (by repeat (first | exact Take.head | apply Take.tail)) (.cons (by repeat (first | exact Take.head | apply Take.tail)) (.cons (by repeat (first | exact Take.head | apply Take.tail)) (.cons (by repeat (first | exact Take.head | apply Take.tail)) .nil))))) rfl rfl⟩
  simp only [BV.m, memOf, gsOf]
  rw [h1.out, h2.out, h3.out]
set_option linter.unusedSimpArgs false in
set_option linter.unusedVariables false in
set_option maxRecDepth 100000 in
set_option maxHeartbeats 4000000 in
theorem szBare_c (B : BV) (left : Int) (W0 : World) (R : BRd W0 B) (Wd : BWide B) (h0 : 0 ≤ left) (h1 : left ≤ 1048576) : Calls Tryz.prog 5 #[B.val, .int .i64 left] W0 fun e w' => e = .returned (.int .i64 (szM left B.m.size)) ∧ Hp W0 w' [] := by
  obtain ⟨n1, hn1⟩ : ∃ n1, n1 = B.mem.xs.length + (B.mem.xs.map (fun x => x.xs.length)).sum := ⟨_, rfl⟩
  obtain ⟨n2, hn2⟩ : ∃ n2, n2 = B.gs.xs.length + (B.gs.xs.map (fun x => x.m.size)).sum := ⟨_, rfl⟩
  obtain ⟨n3, hn3⟩ : ∃ n3, n3 = B.outs.xs.length := ⟨_, rfl⟩
  have N1 := Lib.hid hn1
  have N2 := Lib.hid hn2
  have N3 := Lib.hid hn3
  have NS : Hid (B.m.size = n1 + n2 + n3) := by show B.m.size = n1 + n2 + n3; rw [hn1, hn2, hn3, rowsSize_of, gsSize_of]; rfl
  clear hn1 hn2 hn3
  by_cases c1 : left - n1 < 0
  · have E1 : Hid (szM left (B.mem.xs.length + (B.mem.xs.map (fun x => x.xs.length)).sum) = -1) := by show szM left _ = -1; rw [← N1.out]; exact szM_neg c1
    have H := Hp.start W0
    go_enter Tryz.func5, Tryz.ntmps5
    go_wp2_with (first
      | go_skip
      | (refine wpList_box_H rfl rfl H rfl (by first | exact CellsOf.agg | exact CellsOf.int | exact CellsOf.bool | exact CellsOf.slice | exact CellsOf.string | exact CellsOf.pointer | exact CellsOf.func) ?_; clear H; intro b w H)
      | (refine wpList_alloc_H rfl rfl H ?_; clear H; intro b w H)
      | (refine wpList_load_H rfl rfl H rfl (by repeat (first | exact LoadAt.here rfl | apply LoadAt.there)) ?_)
      | (refine wpList_loads_H rfl rfl H rfl (by repeat (first | (apply LoadsAt.here; repeat (first | exact GetsAt.nil | apply GetsAt.here | apply GetsAt.there)) | apply LoadsAt.there)) ?_)
      | (refine wpList_store_H rfl rfl H rfl rfl (by repeat (first | (apply StoreAt.here; (first | exact CellsOf.agg | exact CellsOf.int | exact CellsOf.bool | exact CellsOf.slice | exact CellsOf.string | exact CellsOf.pointer | exact CellsOf.func); (repeat (first | exact SetsAt.nil | apply SetsAt.here | apply SetsAt.there)); exact rfl; exact rfl) | apply StoreAt.there)) ?_; clear H; intro w H)
      | (go_at_call 20; refine (szIntSS_c B.mem left _ (R.mem.at_ H) Wd.mem Wd.memi h0 h1).mono ?_; rintro e w ⟨he, K⟩; rw [E1.out] at he; subst he; replace H := H.add_all K; clear K))
    go_ret
    exact ⟨ret_int (by rw [NS.out, szM_neg (by omega)]), H.prefix_ (M := [])⟩
  obtain ⟨l1, hl1⟩ : ∃ l1 : Int, l1 = left - n1 := ⟨_, rfl⟩
  have p1 : 0 ≤ l1 := by omega
  have q1 : l1 ≤ 1048576 := by omega
  have E1 : Hid (szM left (B.mem.xs.length + (B.mem.xs.map (fun x => x.xs.length)).sum) = l1) := by show szM left _ = l1; rw [← N1.out, hl1]; exact szM_pos c1
  have M1 := Lib.hid hl1
  by_cases c2 : l1 - n2 < 0
  · have E2 : Hid (szM l1 (B.gs.xs.length + (B.gs.xs.map (fun x => x.m.size)).sum) = -1) := by show szM l1 _ = -1; rw [← N2.out]; exact szM_neg c2
    clear hl1
    have H := Hp.start W0
    go_enter Tryz.func5, Tryz.ntmps5
    go_wp2_with (first
      | go_skip
      | (refine wpList_box_H rfl rfl H rfl (by first | exact CellsOf.agg | exact CellsOf.int | exact CellsOf.bool | exact CellsOf.slice | exact CellsOf.string | exact CellsOf.pointer | exact CellsOf.func) ?_; clear H; intro b w H)
      | (refine wpList_alloc_H rfl rfl H ?_; clear H; intro b w H)
      | (refine wpList_load_H rfl rfl H rfl (by repeat (first | exact LoadAt.here rfl | apply LoadAt.there)) ?_)
      | (refine wpList_loads_H rfl rfl H rfl (by repeat (first | (apply LoadsAt.here; repeat (first | exact GetsAt.nil | apply GetsAt.here | apply GetsAt.there)) | apply LoadsAt.there)) ?_)
      | (refine wpList_store_H rfl rfl H rfl rfl (by repeat (first | (apply StoreAt.here; (first | exact CellsOf.agg | exact CellsOf.int | exact CellsOf.bool | exact CellsOf.slice | exact CellsOf.string | exact CellsOf.pointer | exact CellsOf.func); (repeat (first | exact SetsAt.nil | apply SetsAt.here | apply SetsAt.there)); exact rfl; exact rfl) | apply StoreAt.there)) ?_; clear H; intro w H)
      | (go_at_call 20; refine (szIntSS_c B.mem left _ (R.mem.at_ H) Wd.mem Wd.memi h0 h1).mono ?_; rintro e w ⟨he, K⟩; rw [E1.out] at he; subst he; replace H := H.add_all K; clear K)
      | (go_at_call 21; refine (szGuestS_c B.gs l1 _ (R.gs.at_ H) Wd.gs Wd.gsi p1 q1).mono ?_; rintro e w ⟨he, K⟩; rw [E2.out] at he; subst he; replace H := H.add_all K; clear K))
    go_ret
    exact ⟨ret_int (by have := M1.out; rw [NS.out, szM_neg (by omega)]), H.prefix_ (M := [])⟩
  obtain ⟨l2, hl2⟩ : ∃ l2 : Int, l2 = l1 - n2 := ⟨_, rfl⟩
  have p2 : 0 ≤ l2 := by omega
  have q2 : l2 ≤ 1048576 := by omega
  have E2 : Hid (szM l1 (B.gs.xs.length + (B.gs.xs.map (fun x => x.m.size)).sum) = l2) := by show szM l1 _ = l2; rw [← N2.out, hl2]; exact szM_pos c2
  have M2 := Lib.hid hl2
  by_cases c3 : l2 - n3 < 0
  · have E3 : Hid (szM l2 B.outs.xs.length = -1) := by show szM l2 _ = -1; rw [← N3.out]; exact szM_neg c3
    clear hl1 hl2
    have H := Hp.start W0
    go_enter Tryz.func5, Tryz.ntmps5
    go_wp2_with (first
      | go_skip
      | (refine wpList_box_H rfl rfl H rfl (by first | exact CellsOf.agg | exact CellsOf.int | exact CellsOf.bool | exact CellsOf.slice | exact CellsOf.string | exact CellsOf.pointer | exact CellsOf.func) ?_; clear H; intro b w H)
      | (refine wpList_alloc_H rfl rfl H ?_; clear H; intro b w H)
      | (refine wpList_load_H rfl rfl H rfl (by repeat (first | exact LoadAt.here rfl | apply LoadAt.there)) ?_)
      | (refine wpList_loads_H rfl rfl H rfl (by repeat (first | (apply LoadsAt.here; repeat (first | exact GetsAt.nil | apply GetsAt.here | apply GetsAt.there)) | apply LoadsAt.there)) ?_)
      | (refine wpList_store_H rfl rfl H rfl rfl (by repeat (first | (apply StoreAt.here; (first | exact CellsOf.agg | exact CellsOf.int | exact CellsOf.bool | exact CellsOf.slice | exact CellsOf.string | exact CellsOf.pointer | exact CellsOf.func); (repeat (first | exact SetsAt.nil | apply SetsAt.here | apply SetsAt.there)); exact rfl; exact rfl) | apply StoreAt.there)) ?_; clear H; intro w H)
      | (go_at_call 20; refine (szIntSS_c B.mem left _ (R.mem.at_ H) Wd.mem Wd.memi h0 h1).mono ?_; rintro e w ⟨he, K⟩; rw [E1.out] at he; subst he; replace H := H.add_all K; clear K)
      | (go_at_call 21; refine (szGuestS_c B.gs l1 _ (R.gs.at_ H) Wd.gs Wd.gsi p1 q1).mono ?_; rintro e w ⟨he, K⟩; rw [E2.out] at he; subst he; replace H := H.add_all K; clear K)
      | (go_at_call 22; refine (szInt2_any B.outs l2 _ Wd.outs p2 q2).mono ?_; rintro e w ⟨he, K⟩; rw [E3.out] at he; subst he; replace H := H.still K; clear K))
    go_ret
    exact ⟨ret_int (by have := M1.out; have := M2.out; rw [NS.out, szM_neg (by omega)]), H.prefix_ (M := [])⟩
  obtain ⟨l3, hl3⟩ : ∃ l3 : Int, l3 = l2 - n3 := ⟨_, rfl⟩
  have p3 : 0 ≤ l3 := by omega
  have E3 : Hid (szM l2 B.outs.xs.length = l3) := by show szM l2 _ = l3; rw [← N3.out, hl3]; exact szM_pos c3
  have M3 := Lib.hid hl3
  clear hl1 hl2 hl3
  have H := Hp.start W0
  go_enter Tryz.func5, Tryz.ntmps5
  go_wp2_with (first
    | go_skip
    | (refine wpList_box_H rfl rfl H rfl (by first | exact CellsOf.agg | exact CellsOf.int | exact CellsOf.bool | exact CellsOf.slice | exact CellsOf.string | exact CellsOf.pointer | exact CellsOf.func) ?_; clear H; intro b w H)
    | (refine wpList_alloc_H rfl rfl H ?_; clear H; intro b w H)
    | (refine wpList_load_H rfl rfl H rfl (by repeat (first | exact LoadAt.here rfl | apply LoadAt.there)) ?_)
    | (refine wpList_loads_H rfl rfl H rfl (by repeat (first | (apply LoadsAt.here; repeat (first | exact GetsAt.nil | apply GetsAt.here | apply GetsAt.there)) | apply LoadsAt.there)) ?_)
    | (refine wpList_store_H rfl rfl H rfl rfl (by repeat (first | (apply StoreAt.here; (first | exact CellsOf.agg | exact CellsOf.int | exact CellsOf.bool | exact CellsOf.slice | exact CellsOf.string | exact CellsOf.pointer | exact CellsOf.func); (repeat (first | exact SetsAt.nil | apply SetsAt.here | apply SetsAt.there)); exact rfl; exact rfl) | apply StoreAt.there)) ?_; clear H; intro w H)
    | (go_at_call 20; refine (szIntSS_c B.mem left _ (R.mem.at_ H) Wd.mem Wd.memi h0 h1).mono ?_; rintro e w ⟨he, K⟩; rw [E1.out] at he; subst he; replace H := H.add_all K; clear K)
    | (go_at_call 21; refine (szGuestS_c B.gs l1 _ (R.gs.at_ H) Wd.gs Wd.gsi p1 q1).mono ?_; rintro e w ⟨he, K⟩; rw [E2.out] at he; subst he; replace H := H.add_all K; clear K)
    | (go_at_call 22; refine (szInt2_any B.outs l2 _ Wd.outs p2 q2).mono ?_; rintro e w ⟨he, K⟩; rw [E3.out] at he; subst he; replace H := H.still K; clear K))
  go_ret
  exact ⟨ret_int (by have := M1.out; have := M2.out; have := M3.out; rw [NS.out, szM_pos (by omega)]; omega), H.prefix_ (M := [])⟩
set_option linter.unusedSimpArgs false in
set_option linter.unusedVariables false in
set_option maxRecDepth 100000 in
set_option maxHeartbeats 4000000 in
theorem eqBare_c (B C : BV) (W0 : World) (R : BRd W0 B) (Rc : BRd W0 C) (Z : BBig B) : Calls Tryz.prog 9 #[B.val, C.val] W0 fun e w' => e = .returned (.bool (B.m == C.m)) ∧ Hp W0 w' [] := by
  have z1 := Z.mem
  have z2 := Z.gs
  have z3 := Z.outs
  cases e1 : (B.mem.xs.map (fun x => x.xs) == C.mem.xs.map (fun x => x.xs)) <;> cases e2 : (B.gs.xs.map (fun x => x.m) == C.gs.xs.map (fun x => x.m)) <;> cases e3 : (B.outs.xs == C.outs.xs) <;> cases e4 : (B.pend == C.pend)
  all_goals
  have H := Hp.start W0
  go_enter Tryz.func9, Tryz.ntmps9
  go_wp2_with (first
    | go_skip
    | (refine wpList_box_H rfl rfl H rfl (by first | exact CellsOf.agg | exact CellsOf.int | exact CellsOf.bool | exact CellsOf.slice | exact CellsOf.string | exact CellsOf.pointer | exact CellsOf.func) ?_; clear H; intro b w H)
    | (refine wpList_alloc_H rfl rfl H ?_; clear H; intro b w H)
    | (refine wpList_load_H rfl rfl H rfl (by repeat (first | exact LoadAt.here rfl | apply LoadAt.there)) ?_)
    | (refine wpList_loads_H rfl rfl H rfl (by repeat (first | (apply LoadsAt.here; repeat (first | exact GetsAt.nil | apply GetsAt.here | apply GetsAt.there)) | apply LoadsAt.there)) ?_)
    | (refine wpList_store_H rfl rfl H rfl rfl (by repeat (first | (apply StoreAt.here; (first | exact CellsOf.agg | exact CellsOf.int | exact CellsOf.bool | exact CellsOf.slice | exact CellsOf.string | exact CellsOf.pointer | exact CellsOf.func); (repeat (first | exact SetsAt.nil | apply SetsAt.here | apply SetsAt.there)); exact rfl; exact rfl) | apply StoreAt.there)) ?_; clear H; intro w H)
    | (go_at_call 71; refine (eqIntSS_c B.mem C.mem _ (R.mem.at_ H) (Rc.mem.at_ H) (fun x hx => (R.memi x hx).at_ H) (fun x hx => (Rc.memi x hx).at_ H) z1 Z.memi).mono ?_; rintro e w ⟨he, K⟩; rw [e1] at he; subst he; replace H := H.add_all K; clear K)
    | (go_at_call 72; refine (eqGuestS_c B.gs C.gs _ (R.gs.at_ H) (Rc.gs.at_ H) (fun x hx => (R.gsi x hx).at_ H) (fun x hx => (Rc.gsi x hx).at_ H) z2 Z.gsi).mono ?_; rintro e w ⟨he, K⟩; rw [e2] at he; subst he; replace H := H.add_all K; clear K)
    | (go_at_call 16; refine (eqIntS_any B.outs C.outs _ (R.outs.at_ H) (Rc.outs.at_ H) (by unfold big; exact z3)).mono ?_; rintro e w ⟨he, K⟩; rw [e3] at he; subst he; replace H := H.still K; clear K))
  go_ret
  exact ⟨ret_bool (by rw [meqB, e1, e2, e3, e4]; rfl), H.prefix_ (M := [])⟩
end Go.Proofs.YthpoieoaaikpmaaGreat
