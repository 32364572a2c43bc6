/- The laws' own makers and sizes on slices of slices, of guests, and on bare machines. No condition but that the argument lies in memory. -/
import Derived.Test.YthpoieoaaikpmaaGreatDr
import Derived.Test.YthpoieoaaikpmaaGreatLh
namespace Go.Proofs.YthpoieoaaikpmaaGreat
set_option linter.unusedSimpArgs false
set_option linter.unusedVariables false
open Go.RowKit
abbrev En.irows (s : Sl (Sl Ins)) : En := En.sl hcells 1 49 s
theorem Hp.rdirows {w0 w : World} {L L' : List En} (H : Hp w0 w L) {s : Sl (Sl Ins)} (t : Take L (.irows s) L') : Rd hcells 1 w s := H.rd t h_len
theorem set_fill {α : Type} {ds : List α} {k n : Nat} {z d : α} (h : ds.length = k) (hk : k < n) : (ds ++ List.replicate (n - k) z).set k d = (ds ++ [d]) ++ List.replicate (n - (k + 1)) z := by
  subst h
  rw [show n - ds.length = (n - (ds.length + 1)) + 1 by omega, List.replicate_succ]
  simp
theorem get_fill {α : Type} {ds : List α} {k n : Nat} {z : α} (h : ds.length = k) (hk : k < n) : (ds ++ List.replicate (n - k) z)[k]? = some z := by
  subst h
  rw [List.getElem?_append_right (Nat.le_refl _), Nat.sub_self, show n - ds.length = (n - (ds.length + 1)) + 1 by omega, List.replicate_succ]; rfl
theorem map_snoc {α β : Type} {f : α → β} {ds xs : List α} {k : Nat} {d y : α} (h : ds.map f = (xs.take k).map f) (hy : xs[k]? = some y) (hd : f d = f y) : (ds ++ [d]).map f = (xs.take (k + 1)).map f := by
  rw [List.take_add_one, List.map_append, List.map_append, h, hy]; simp [hd]
theorem toG2_any (g : GV) (w : World) (hg : GRd w g) (hz : GBig g) : Calls Tryz.prog 98 #[g.val] w fun e w' => ∃ d : GV, e = .returned (.agg #[.slice d.prog.A d.prog.xs.length d.prog.c, .int .i64 d.a, .int .i64 d.pc, .slice d.written.A d.written.xs.length d.written.c, .slice d.live.A d.live.xs.length d.live.c,
    .int .i64 d.ctl.traps, .int .i64 d.ctl.post, .bool d.ctl.opn, .int .i64 d.pending, .int .i64 d.exit.kind, .int .i64 d.exit.page, .bool d.exit.write, .int .i64 d.exit.n, .bool d.halted, .slice d.seen.A d.seen.xs.length d.seen.c]) ∧ d.m = g.m ∧ GOwn w' w.heap.size d ∧ Below w.heap.size w w' := toGuest_any g w hg hz
set_option linter.unusedSimpArgs false in
set_option linter.unusedVariables false in
set_option maxRecDepth 100000 in
set_option maxHeartbeats 2000000 in
theorem toIntSS_c (s : Sl (Sl Int)) (W0 : World) (R : Rd hcells 1 W0 s) (Ri : ∀ x ∈ s.xs, Rd icell 1 W0 x) (Z : s.xs.length ≤ 4194304) (Zi : ∀ x ∈ s.xs, x.xs.length ≤ 4194304) : Calls Tryz.prog 43 #[.slice s.A s.xs.length s.c] W0 fun e w' => ∃ d : Sl (Sl Int), e = .returned (.slice d.A d.xs.length d.c) ∧ d.xs.map (fun x => x.xs) = s.xs.map (fun x => x.xs) ∧ Hp W0 w' [.rows d, .many En.int d.xs] := by
  have H := Hp.start W0
  go_enter Tryz.func43, Tryz.ntmps43
  go_wp2_with (first
    | go_skip
    | (refine wpList_make_H rfl rfl H (Sl.nil Int) rfl rfl rfl Z (by decide) ?_; clear H; intro b w H))
  replace H := H.many_nil En.int
  go_loopw [4] (fun i wr => ∃ (k : Nat) (ds : List (Sl Int)), k ≤ s.xs.length ∧ i = .int .i64 k ∧ ds.length = k ∧ ds.map (fun x => x.xs) = (s.xs.take k).map (fun x => x.xs) ∧ Hp W0 wr [.many En.int ds, .rows ⟨some ⟨b, 0, none⟩, s.xs.length, ds ++ List.replicate (s.xs.length - k) (Sl.nil Int)⟩]) (fun i _ => s.xs.length - (intOf i).toNat)
  case atStart => exact ⟨0, [], by omega, rfl, rfl, by simp, by simpa using H⟩
  case round =>
    clear H
    obtain ⟨k, ds, hk0, rfl, hdl, hds, H⟩ := hrel
    have HD := Lib.hid hds; have HL := Lib.hid hdl; clear hds hdl
    by_cases hk : k < s.xs.length
    · obtain ⟨y, hy0⟩ : ∃ y, s.xs[k]? = some y := ⟨_, List.getElem?_eq_getElem hk⟩
      have HY := Lib.hid hy0; clear hy0
      have RY := Lib.hid (Ri y (List.mem_of_getElem? HY.out))
      have ZY := Lib.hid (Zi y (List.mem_of_getElem? HY.out))
      obtain ⟨zs, hzs⟩ : ∃ zs, zs = ds ++ List.replicate (s.xs.length - k) (Sl.nil Int) := ⟨_, rfl⟩
      have HZ := Lib.hid hzs
      rw [← hzs] at H
      clear hzs
      have HZL : Hid (zs.length = s.xs.length) := by show zs.length = s.xs.length; rw [HZ.out]; simp [HL.out]; omega
      have HZK : Hid (zs[k]? = some (Sl.nil Int)) := by show zs[k]? = some (Sl.nil Int); rw [HZ.out]; exact get_fill HL.out hk
      go_wp2_with (first
        | go_skip
        | (refine wpList_index_n rfl rfl s (R.at_ H) rfl rfl rfl hk ?_)
        | (refine wpList_index_n rfl rfl ⟨some ⟨b, 0, none⟩, s.xs.length, zs⟩ (H.rdrows (by repeat (first | exact Take.head | apply Take.tail))) rfl rfl HZL.out hk ?_)
        | (refine wpList_load_rd rfl rfl s (R.at_ H) rfl y HY.out rfl ?_)
        | (go_at_call 13; refine (toIntS_any y _ (RY.out.at_ H) ZY.out).mono ?_; rintro e w ⟨d, rfl, hx, ho, hb⟩; have HX := Lib.hid hx; clear hx; replace H := H.add_sl ho hb; clear ho hb)
        | (refine wpList_store_el (enc := hcells) (sz := 1) rfl rfl H (⟨some ⟨b, 0, none⟩, s.xs.length, zs⟩ : Sl (Sl Int)) (by repeat (first | exact Take.head | apply Take.tail)) h_len rfl rfl (Sl.nil Int) d HZK.out (by first | exact CellsOf.agg | exact CellsOf.int | exact CellsOf.bool | exact CellsOf.slice | exact CellsOf.string | exact CellsOf.pointer | exact CellsOf.func) (by repeat (first | exact SetsAt.nil | apply SetsAt.here | apply SetsAt.there)) (by first | omega | (dsimp only; done) | (dsimp only; omega)) (by exact rfl) (by exact rfl) ?_; clear H; intro w H))
      go_roundw
      case rel =>
        refine ⟨k + 1, ds ++ [d], by omega, by go_num, by simp [HL.out], map_snoc HD.out HY.out HX.out, ?_⟩
        rw [← set_fill HL.out hk, ← HZ.out]
        exact (H.pick (M := [En.int d, .many En.int ds, .rows ⟨some ⟨b, 0, none⟩, s.xs.length, zs.set k d⟩]) (.cons (by repeat (first | exact Take.head | apply Take.tail)) (.cons (by repeat (first | exact Take.head | apply Take.tail)) (.cons (by repeat (first | exact Take.head | apply Take.tail)) .nil)))).many_snoc
      case measure => simp [intOf]; omega
    · have hke : k = s.xs.length := by omega
      subst hke
      go_wp2
      go_ret
      have hd := HD.out
      rw [List.take_length] at hd
      refine ⟨⟨some ⟨b, 0, none⟩, s.xs.length, ds⟩, ?_, hd, ?_⟩
      · simp [HL.out]
      · exact (H.pick (M := [.rows ⟨some ⟨b, 0, none⟩, s.xs.length, ds ++ List.replicate (s.xs.length - s.xs.length) (Sl.nil Int)⟩, .many En.int ds]) (.cons (by repeat (first | exact Take.head | apply Take.tail)) (.cons (by repeat (first | exact Take.head | apply Take.tail)) .nil))) |> fun h => by simpa using h
set_option linter.unusedSimpArgs false in
set_option linter.unusedVariables false in
set_option maxRecDepth 100000 in
set_option maxHeartbeats 2000000 in
theorem toGuestS_c (s : Sl (GV)) (W0 : World) (R : Rd GV.cells 15 W0 s) (Ri : ∀ x ∈ s.xs, GRd W0 x) (Z : s.xs.length ≤ 4194304) (Zi : ∀ x ∈ s.xs, GBig x) : Calls Tryz.prog 44 #[.slice s.A s.xs.length s.c] W0 fun e w' => ∃ d : Sl (GV), e = .returned (.slice d.A d.xs.length d.c) ∧ d.xs.map (fun x => x.m) = s.xs.map (fun x => x.m) ∧ Hp W0 w' [.gsl d, .many En.gst d.xs] := by
  have H := Hp.start W0
  go_enter Tryz.func44, Tryz.ntmps44
  go_wp2_with (first
    | go_skip
    | (refine wpList_make_H rfl rfl H gzero rfl rfl rfl Z (by decide) ?_; clear H; intro b w H))
  replace H := H.many_nil En.gst
  go_loopw [4] (fun i wr => ∃ (k : Nat) (ds : List (GV)), k ≤ s.xs.length ∧ i = .int .i64 k ∧ ds.length = k ∧ ds.map (fun x => x.m) = (s.xs.take k).map (fun x => x.m) ∧ Hp W0 wr [.many En.gst ds, .gsl ⟨some ⟨b, 0, none⟩, s.xs.length, ds ++ List.replicate (s.xs.length - k) gzero⟩]) (fun i _ => s.xs.length - (intOf i).toNat)
  case atStart => exact ⟨0, [], by omega, rfl, rfl, by simp, by simpa using H⟩
  case round =>
    clear H
    obtain ⟨k, ds, hk0, rfl, hdl, hds, H⟩ := hrel
    have HD := Lib.hid hds; have HL := Lib.hid hdl; clear hds hdl
    by_cases hk : k < s.xs.length
    · obtain ⟨y, hy0⟩ : ∃ y, s.xs[k]? = some y := ⟨_, List.getElem?_eq_getElem hk⟩
      have HY := Lib.hid hy0; clear hy0
      have RY := Lib.hid (Ri y (List.mem_of_getElem? HY.out))
      have ZY := Lib.hid (Zi y (List.mem_of_getElem? HY.out))
      obtain ⟨zs, hzs⟩ : ∃ zs, zs = ds ++ List.replicate (s.xs.length - k) gzero := ⟨_, rfl⟩
      have HZ := Lib.hid hzs
      rw [← hzs] at H
      clear hzs
      have HZL : Hid (zs.length = s.xs.length) := by show zs.length = s.xs.length; rw [HZ.out]; simp [HL.out]; omega
      have HZK : Hid (zs[k]? = some gzero) := by show zs[k]? = some gzero; rw [HZ.out]; exact get_fill HL.out hk
      go_wp2_with (first
        | go_skip
        | (refine wpList_index_n rfl rfl s (R.at_ H) rfl rfl rfl hk ?_)
        | (refine wpList_index_n rfl rfl ⟨some ⟨b, 0, none⟩, s.xs.length, zs⟩ (H.rdgsl (by repeat (first | exact Take.head | apply Take.tail))) rfl rfl HZL.out hk ?_)
        | (refine wpList_loads_rd rfl rfl s (R.at_ H) rfl y HY.out (by repeat (first | exact GetsAt.nil | apply GetsAt.here | apply GetsAt.there)) ?_)
        | (go_at_call 98; refine (toG2_any y _ (RY.out.at_ H) ZY.out).mono ?_; rintro e w ⟨d, rfl, hx, ho, hb⟩; have HX := Lib.hid hx; clear hx; replace H := H.add_gst ho hb; clear ho hb)
        | (refine wpList_store_el (enc := GV.cells) (sz := 15) rfl rfl H (⟨some ⟨b, 0, none⟩, s.xs.length, zs⟩ : Sl (GV)) (by repeat (first | exact Take.head | apply Take.tail)) g_len rfl rfl gzero d HZK.out (by first | exact CellsOf.agg | exact CellsOf.int | exact CellsOf.bool | exact CellsOf.slice | exact CellsOf.string | exact CellsOf.pointer | exact CellsOf.func) (by repeat (first | exact SetsAt.nil | apply SetsAt.here | apply SetsAt.there)) (by first | omega | (dsimp only; done) | (dsimp only; omega)) (by exact rfl) (by exact rfl) ?_; clear H; intro w H))
      go_roundw
      case rel =>
        refine ⟨k + 1, ds ++ [d], by omega, by go_num, by simp [HL.out], map_snoc HD.out HY.out HX.out, ?_⟩
        rw [← set_fill HL.out hk, ← HZ.out]
        exact (H.pick (M := [En.gst d, .many En.gst ds, .gsl ⟨some ⟨b, 0, none⟩, s.xs.length, zs.set k d⟩]) (.cons (by repeat (first | exact Take.head | apply Take.tail)) (.cons (by repeat (first | exact Take.head | apply Take.tail)) (.cons (by repeat (first | exact Take.head | apply Take.tail)) .nil)))).many_snoc
      case measure => simp [intOf]; omega
    · have hke : k = s.xs.length := by omega
      subst hke
      go_wp2
      go_ret
      have hd := HD.out
      rw [List.take_length] at hd
      refine ⟨⟨some ⟨b, 0, none⟩, s.xs.length, ds⟩, ?_, hd, ?_⟩
      · simp [HL.out]
      · exact (H.pick (M := [.gsl ⟨some ⟨b, 0, none⟩, s.xs.length, ds ++ List.replicate (s.xs.length - s.xs.length) gzero⟩, .many En.gst ds]) (.cons (by repeat (first | exact Take.head | apply Take.tail)) (.cons (by repeat (first | exact Take.head | apply Take.tail)) .nil))) |> fun h => by simpa using h
end Go.Proofs.YthpoieoaaikpmaaGreat
