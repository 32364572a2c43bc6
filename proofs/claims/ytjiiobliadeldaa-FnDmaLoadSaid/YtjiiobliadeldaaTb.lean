/- Slices of bools: cells, comparisons, marks. No condition but that the arguments lie in memory. -/
import Derived.Test.YtjiiobliadeldaaBza
import Derived.Test.YtjiiobliadeldaaGd
import Derived.Test.YtjiiobliadeldaaDl
namespace Go.Proofs.Ytjiiobliadeldaa
open Go.RowKit
attribute [local go_sem ↓] Go.wp_at_zero Go.wp_at_succ
section
variable {ops : Array Oper} {S : World → Prop} {o : Oper} {a : Act} {α : Type} {enc : α → List Value} {sz e : Nat} {P : Program}
theorem yields_index_nT (hw : Region.wanted o (yielded ops a.tmps) = true) {t : TypeId} {x ix : Operand} (ho : o.op = .indexAddr t x ix) {bytes : Nat} [hE : EI P t enc sz bytes e] (s : Sl α) (hR : ∀ w, S w → Rd enc sz w s) {k m : Nat} (hx : a.eval x = .slice s.A m s.c) (hi : a.eval ix = .int .i64 k)
    (hm : s.xs.length = m) (h1 : k < m) : YieldsIf P ops S o (.pointer (some ⟨ablk s.A, aoff s.A + k * sz, none⟩)) a := by
  subst hm
  refine .inl ⟨hw, fun w hS => ?_⟩
  obtain ⟨i, z, hi', hz, hsize, hby, hzs⟩ := hE.info.hi
  obtain ⟨hA, _⟩ := (hR w hS).addr (k := k) h1
  have hr : (Instr.indexAt t (.slice s.A s.xs.length s.c) (.int .i64 k)).run P w = .ok (.pointer (some ⟨ablk s.A, aoff s.A + k * sz, none⟩)) w := by
    rw [hA]
    simp [Instr.indexAt, asIntOf, run_underlying hE.info.ht, sizeOf, typeInfo, hi', hsize, h1, addj, ablk, aoff, go_sem]
  unfold execOp
  simp only [ho, hx, hi, Sem.run_bind, Sem.run_pure, Result.andThen_ok, hr]
theorem yields_load_rdT (hw : Region.wanted o (yielded ops a.tmps) = true) {ty : TypeId} {x : Operand} (ho : o.op = .load ty x) (s : Sl α) (hR : ∀ w, S w → Rd enc sz w s) {q : Nat} (hx : a.eval x = .pointer (some ⟨ablk s.A, q, none⟩)) [hT : TyS P ty] {k : Nat} (y : α) (hk : s.xs[k]? = some y) {j : Nat} (hq : q = aoff s.A + k * sz + j) {v : Value} (hv : (enc y)[j]? = some v) :
    YieldsIf P ops S o v a := by
  subst hq
  refine .inl ⟨hw, fun w hS => ?_⟩
  have hr : (Instr.loadAt ty (a.eval x)).run P w = .ok v w := by rw [hx]; exact run_load_rd (hR w hS) hT hk hv
  unfold execOp
  simp only [ho, Sem.run_bind, Sem.run_pure, Result.andThen_ok, hr]
end
theorem Hp.sealT {w0 w : World} {x : En} {L : List En} (H : Hp w0 w (x :: L)) : Hp w0 w [x, .all L] :=
  H.equiv (by simp [En.all]) fun h _ y hy => by
    rcases List.mem_cons.1 hy with rfl | hy
    · exact h _ (by simp)
    · rw [List.mem_singleton] at hy; subst hy; exact fun e he => h e (by simp [he])
theorem Hp.unsealT {w0 w : World} {x : En} {L : List En} (H : Hp w0 w [x, .all L]) : Hp w0 w (x :: L) :=
  H.equiv (by simp [En.all]) fun h _ y hy => by
    rcases List.mem_cons.1 hy with rfl | hy
    · exact h _ (by simp)
    · have h2 : (En.all L).ok w := h _ (by simp)
      exact h2 y hy
abbrev bcel (b : Bool) : List Value := [.bool b]
theorem bool_len (b : Bool) : (bcel b).length = 1 := rfl
theorem bool_one (b : Bool) : ∀ u ∈ bcel b, u.oneCell' = true := by
  intro u hu
  simp only [List.mem_cons, List.not_mem_nil, or_false] at hu
  subst hu; rfl
theorem info_boolT : (Try.prog.info? 4).map (fun i => (i.zero, i.size, i.bytes)) = some (some (.bool false), 1, 1) := by kernel_rfl
instance eiBools : EI Try.prog 54 bcel 1 1 4 := ⟨⟨Try.underlying54, by obtain ⟨i, h1, h2, h3, h4⟩ := info_parts info_boolT; exact ⟨i, _, h1, h2, h3, h4, rfl⟩, by decide, bool_len, bool_one⟩⟩
abbrev En.bools (s : Sl Bool) : En := En.sl bcel 1 4 s
theorem take_eqF {α : Type} {xs ys : List α} {k : Nat} (h : xs.take k = ys.take k) {x y : α} (hx : xs[k]? = some x) (hy : ys[k]? = some y) (hxy : x = y) : xs.take (k + 1) = ys.take (k + 1) := by
  rw [List.take_add_one, List.take_add_one, h, hx, hy, hxy]
theorem list_neF {α : Type} [BEq α] [LawfulBEq α] {xs ys : List α} {k : Nat} {x y : α} (hx : xs[k]? = some x) (hy : ys[k]? = some y) (hxy : x ≠ y) : false = (xs == ys) := by
  symm
  rw [beq_eq_false_iff_ne]
  rintro rfl
  rw [hx] at hy; injection hy with hy; exact hxy hy
def mixB (k0 : Int) (xs : List Bool) (i : Nat) : List Bool := (List.range xs.length).map fun j => if j < i then (k0 + j) % 3 == 0 else xs.getD j false
abbrev marksB (k0 : Int) (n : Nat) : List Bool := (List.range n).map fun (j : Nat) => (k0 + j) % 3 == 0
theorem mixB_len (k0 : Int) (xs : List Bool) (i : Nat) : (mixB k0 xs i).length = xs.length := by simp [mixB]
theorem mixB_0 (k0 : Int) (xs : List Bool) : mixB k0 xs 0 = xs := by
  apply List.ext_getElem
  · simp [mixB]
  · intro j h1 h2
    simp [mixB, List.getD_eq_getElem?_getD, h2]
theorem mixB_all (k0 : Int) (xs : List Bool) : mixB k0 xs xs.length = marksB k0 xs.length := by
  unfold mixB marksB
  apply List.map_congr_left
  intro j hj
  rw [if_pos (List.mem_range.1 hj)]
theorem mixB_set (k0 : Int) (xs : List Bool) (i : Nat) (_ : i < xs.length) : (mixB k0 xs i).set i ((k0 + i) % 3 == 0) = mixB k0 xs (i + 1) := by
  apply List.ext_getElem
  · simp [mixB]
  · intro j h1 h2
    rw [List.getElem_set]
    simp only [mixB, List.getElem_map, List.getElem_range]
    by_cases hj : i = j
    · subst hj; simp
    · rw [if_neg hj]
      by_cases h3 : j < i
      · rw [if_pos h3, if_pos (by omega)]
      · rw [if_neg h3, if_neg (by omega)]
set_option linter.unusedSimpArgs false in
set_option linter.unusedVariables false in
set_option maxRecDepth 100000 in
set_option maxHeartbeats 4000000 in
theorem sameBools_c (s t : Sl Bool) (W0 : World) (Rs : Rd bcel 1 W0 s) (Rt : Rd bcel 1 W0 t) (Z : s.xs.length ≤ 4194304) : Calls Try.prog 30 #[.slice s.A s.xs.length s.c, .slice t.A t.xs.length t.c] W0 fun e w' => e = .returned (.bool (s.xs == t.xs)) ∧ Hp W0 w' [] := by
  have H := Hp.start W0
  by_cases hl : s.xs.length = t.xs.length
  · have l1 : (s.xs.length == t.xs.length) = true := beq_iff_eq.2 hl
    have l2 : (s.xs.length != t.xs.length) = false := by simp [hl]
    have l3 : ((s.xs.length : Int) == (t.xs.length : Int)) = true := by simp [hl]
    have l4 : ((s.xs.length : Int) != (t.xs.length : Int)) = false := by simp [hl]
    have HL := Lib.hid hl; clear hl
    go_enter Try.func30, Try.ntmps30
    go_wp2
    clear l1 l2 l3 l4
    go_loopw [5] (fun i wr => ∃ k : Nat, k ≤ s.xs.length ∧ i = .int .i64 k ∧ Hid (s.xs.take k = t.xs.take k) ∧ Hp W0 wr []) (fun i _ => s.xs.length - (intOf i).toNat)
    case atStart => exact ⟨0, by omega, rfl, Lib.hid (by simp), H⟩
    case round =>
      clear H
      obtain ⟨k, hk, rfl, HT, H⟩ := hrel
      by_cases hk0 : k < s.xs.length
      · have hk1 : k < t.xs.length := by rw [← HL.out]; exact hk0
        obtain ⟨x, hx0⟩ : ∃ x, s.xs[k]? = some x := ⟨_, List.getElem?_eq_getElem hk0⟩
        have HX := Lib.hid hx0; clear hx0
        obtain ⟨y, hy0⟩ : ∃ y, t.xs[k]? = some y := ⟨_, List.getElem?_eq_getElem hk1⟩
        have HY := Lib.hid hy0; clear hy0
        cases e1 : (x != y)
        · skip
          go_wp2_with (first
            | go_skip
            | ((with_reducible refine at_box ?_); first | (refine wpList_box_H rfl rfl H rfl (by first | exact CellsOf.agg | exact CellsOf.int | exact CellsOf.bool | exact CellsOf.slice | exact CellsOf.string | exact CellsOf.pointer | exact CellsOf.func) ?_; clear H; intro b w H))
            | ((with_reducible refine at_alloc ?_); first | (refine wpList_alloc_H rfl rfl H ?_; clear H; intro b w H))
            | ((with_reducible refine at_load ?_); first | (refine wpList_load_H rfl rfl H rfl (by repeat (first | exact LoadAt.here rfl | apply LoadAt.there)) ?_) | (refine wpList_loads_H rfl rfl H rfl (by repeat (first | (apply LoadsAt.here; repeat (first | exact GetsAt.nil | apply GetsAt.here | apply GetsAt.there)) | apply LoadsAt.there)) ?_))
            | ((with_reducible refine at_store ?_); first | (refine wpList_store_H rfl rfl H rfl rfl (by repeat (first | (apply StoreAt.here; (first | exact CellsOf.agg | exact CellsOf.int | exact CellsOf.bool | exact CellsOf.slice | exact CellsOf.string | exact CellsOf.pointer | exact CellsOf.func); (repeat (first | exact SetsAt.nil | apply SetsAt.here | apply SetsAt.there)); exact rfl; exact rfl) | apply StoreAt.there)) ?_; clear H; intro w H)))
          refine wp_cut (fun u a' w' => ∃ (_ : Unit), Hp W0 w' [] ∧ a' = puts u [(17, (.slice s.A s.xs.length s.c)), (18, (.int .i64 k)), (19, (.pointer (some ⟨ablk s.A, aoff s.A + k * 1, none⟩))), (20, (.bool x)), (21, (.slice t.A t.xs.length t.c)), (22, (.int .i64 k)), (23, (.pointer (some ⟨ablk t.A, aoff t.A + k * 1, none⟩))), (24, (.bool y)), (25, (.bool false))]) ?_ ?_
          · refine wp_region_held (S := (fun w' => Rd bcel 1 w' s ∧ Rd bcel 1 w' t)) (by kernel_rfl) ?_
            replace H := H.drew
            refine takeH (i := 0) rfl .here (by kernel_rfl) (by kernel_rfl) (by kernel_rfl) (fun _ _ _ h => absurd h.1 (by simp)) (yields_val (v := (.slice s.A s.xs.length s.c)) rfl (fun _ => by go_simp)) ⟨Rs.at_ H, Rt.at_ H⟩ ?_
            (try simp only [Act.put, List.setIfInBounds_toArray, List.set_cons_succ, List.set_cons_zero])
            refine takeH (i := 1) rfl (.there .here) (by kernel_rfl) (by kernel_rfl) (by kernel_rfl) (fun _ _ _ h => absurd h.1 (by simp)) (yields_val (v := (.int .i64 k)) rfl (fun _ => by go_simp)) ⟨Rs.at_ H, Rt.at_ H⟩ ?_
            (try simp only [Act.put, List.setIfInBounds_toArray, List.set_cons_succ, List.set_cons_zero])
            refine takeH (i := 2) rfl (.there (.there .here)) (by kernel_rfl) (by kernel_rfl) (by kernel_rfl) (fun _ _ _ h => absurd h.1 (by simp)) (yields_index_nT rfl rfl (k := k) s (fun _ hS => hS.1) rfl rfl rfl hk0) ⟨Rs.at_ H, Rt.at_ H⟩ ?_
            (try simp only [Act.put, List.setIfInBounds_toArray, List.set_cons_succ, List.set_cons_zero])
            refine takeH (i := 3) rfl (.there (.there (.there .here))) (by kernel_rfl) (by kernel_rfl) (by kernel_rfl) (fun _ _ _ h => absurd h.1 (by simp)) (yields_load_rdT rfl rfl s (fun _ hS => hS.1) rfl x HX.out (by first | exact rfl | exact (Nat.add_zero _).symm) rfl) ⟨Rs.at_ H, Rt.at_ H⟩ ?_
            (try simp only [Act.put, List.setIfInBounds_toArray, List.set_cons_succ, List.set_cons_zero])
            refine takeH (i := 4) rfl (.there (.there (.there (.there .here)))) (by kernel_rfl) (by kernel_rfl) (by kernel_rfl) (fun _ _ _ h => absurd h.1 (by simp)) (yields_val (v := (.slice t.A t.xs.length t.c)) rfl (fun _ => by go_simp)) ⟨Rs.at_ H, Rt.at_ H⟩ ?_
            (try simp only [Act.put, List.setIfInBounds_toArray, List.set_cons_succ, List.set_cons_zero])
            refine takeH (i := 5) rfl (.there (.there (.there (.there (.there .here))))) (by kernel_rfl) (by kernel_rfl) (by kernel_rfl) (fun _ _ _ h => absurd h.1 (by simp)) (yields_val (v := (.int .i64 k)) rfl (fun _ => by go_simp)) ⟨Rs.at_ H, Rt.at_ H⟩ ?_
            (try simp only [Act.put, List.setIfInBounds_toArray, List.set_cons_succ, List.set_cons_zero])
            refine takeH (i := 6) rfl (.there (.there (.there (.there (.there (.there .here)))))) (by kernel_rfl) (by kernel_rfl) (by kernel_rfl) (fun _ _ _ h => absurd h.1 (by simp)) (yields_index_nT rfl rfl (k := k) t (fun _ hS => hS.2) rfl rfl rfl hk1) ⟨Rs.at_ H, Rt.at_ H⟩ ?_
            (try simp only [Act.put, List.setIfInBounds_toArray, List.set_cons_succ, List.set_cons_zero])
            refine takeH (i := 7) rfl (.there (.there (.there (.there (.there (.there (.there .here))))))) (by kernel_rfl) (by kernel_rfl) (by kernel_rfl) (fun _ _ _ h => absurd h.1 (by simp)) (yields_load_rdT rfl rfl t (fun _ hS => hS.2) rfl y HY.out (by first | exact rfl | exact (Nat.add_zero _).symm) rfl) ⟨Rs.at_ H, Rt.at_ H⟩ ?_
            (try simp only [Act.put, List.setIfInBounds_toArray, List.set_cons_succ, List.set_cons_zero])
            refine takeH (i := 8) rfl (.there (.there (.there (.there (.there (.there (.there (.there .here)))))))) (by kernel_rfl) (by kernel_rfl) (by kernel_rfl) (fun _ _ _ h => absurd h.1 (by simp)) (yields_val (v := (.bool false)) rfl (fun _ => by (first | (go_simp; done) | (go_simp; rw [e1]) | (rw [← e1]; go_simp; done) | (go_simp; omega) | (go_simp; simpa using e1)))) ⟨Rs.at_ H, Rt.at_ H⟩ ?_
            (try simp only [Act.put, List.setIfInBounds_toArray, List.set_cons_succ, List.set_cons_zero])
            refine wpAnyH_done (by kernel_rfl) ?_ _
            exact ⟨rfl, (), H.pick .nil, by first | (simp only [puts_cons, puts_nil, Act.put, List.setIfInBounds_toArray, List.set_cons_succ, List.set_cons_zero]; done) | (simp only [puts_cons, puts_nil, Act.put, List.setIfInBounds_toArray, List.set_cons_succ, List.set_cons_zero]; rfl)⟩
          clear H
          rintro u w ⟨_, H, rfl⟩
          simp only [puts_cons, puts_nil, Act.put, List.setIfInBounds_toArray, List.set_cons_succ, List.set_cons_zero]
          go_wp2
          go_roundw
          case rel => exact ⟨k + 1, by omega, by go_num, Lib.hid (take_eqF HT.out HX.out HY.out (bne_eq_false_iff_eq.1 e1)), H.pick .nil⟩
          case measure => simp [intOf]; omega
        · skip
          go_wp2_with (first
            | go_skip
            | ((with_reducible refine at_box ?_); first | (refine wpList_box_H rfl rfl H rfl (by first | exact CellsOf.agg | exact CellsOf.int | exact CellsOf.bool | exact CellsOf.slice | exact CellsOf.string | exact CellsOf.pointer | exact CellsOf.func) ?_; clear H; intro b w H))
            | ((with_reducible refine at_alloc ?_); first | (refine wpList_alloc_H rfl rfl H ?_; clear H; intro b w H))
            | ((with_reducible refine at_load ?_); first | (refine wpList_load_H rfl rfl H rfl (by repeat (first | exact LoadAt.here rfl | apply LoadAt.there)) ?_) | (refine wpList_loads_H rfl rfl H rfl (by repeat (first | (apply LoadsAt.here; repeat (first | exact GetsAt.nil | apply GetsAt.here | apply GetsAt.there)) | apply LoadsAt.there)) ?_))
            | ((with_reducible refine at_store ?_); first | (refine wpList_store_H rfl rfl H rfl rfl (by repeat (first | (apply StoreAt.here; (first | exact CellsOf.agg | exact CellsOf.int | exact CellsOf.bool | exact CellsOf.slice | exact CellsOf.string | exact CellsOf.pointer | exact CellsOf.func); (repeat (first | exact SetsAt.nil | apply SetsAt.here | apply SetsAt.there)); exact rfl; exact rfl) | apply StoreAt.there)) ?_; clear H; intro w H)))
          refine wp_cut (fun u a' w' => ∃ (_ : Unit), Hp W0 w' [] ∧ a' = puts u [(17, (.slice s.A s.xs.length s.c)), (18, (.int .i64 k)), (19, (.pointer (some ⟨ablk s.A, aoff s.A + k * 1, none⟩))), (20, (.bool x)), (21, (.slice t.A t.xs.length t.c)), (22, (.int .i64 k)), (23, (.pointer (some ⟨ablk t.A, aoff t.A + k * 1, none⟩))), (24, (.bool y)), (25, (.bool true))]) ?_ ?_
          · refine wp_region_held (S := (fun w' => Rd bcel 1 w' s ∧ Rd bcel 1 w' t)) (by kernel_rfl) ?_
            replace H := H.drew
            refine takeH (i := 0) rfl .here (by kernel_rfl) (by kernel_rfl) (by kernel_rfl) (fun _ _ _ h => absurd h.1 (by simp)) (yields_val (v := (.slice s.A s.xs.length s.c)) rfl (fun _ => by go_simp)) ⟨Rs.at_ H, Rt.at_ H⟩ ?_
            (try simp only [Act.put, List.setIfInBounds_toArray, List.set_cons_succ, List.set_cons_zero])
            refine takeH (i := 1) rfl (.there .here) (by kernel_rfl) (by kernel_rfl) (by kernel_rfl) (fun _ _ _ h => absurd h.1 (by simp)) (yields_val (v := (.int .i64 k)) rfl (fun _ => by go_simp)) ⟨Rs.at_ H, Rt.at_ H⟩ ?_
            (try simp only [Act.put, List.setIfInBounds_toArray, List.set_cons_succ, List.set_cons_zero])
            refine takeH (i := 2) rfl (.there (.there .here)) (by kernel_rfl) (by kernel_rfl) (by kernel_rfl) (fun _ _ _ h => absurd h.1 (by simp)) (yields_index_nT rfl rfl (k := k) s (fun _ hS => hS.1) rfl rfl rfl hk0) ⟨Rs.at_ H, Rt.at_ H⟩ ?_
            (try simp only [Act.put, List.setIfInBounds_toArray, List.set_cons_succ, List.set_cons_zero])
            refine takeH (i := 3) rfl (.there (.there (.there .here))) (by kernel_rfl) (by kernel_rfl) (by kernel_rfl) (fun _ _ _ h => absurd h.1 (by simp)) (yields_load_rdT rfl rfl s (fun _ hS => hS.1) rfl x HX.out (by first | exact rfl | exact (Nat.add_zero _).symm) rfl) ⟨Rs.at_ H, Rt.at_ H⟩ ?_
            (try simp only [Act.put, List.setIfInBounds_toArray, List.set_cons_succ, List.set_cons_zero])
            refine takeH (i := 4) rfl (.there (.there (.there (.there .here)))) (by kernel_rfl) (by kernel_rfl) (by kernel_rfl) (fun _ _ _ h => absurd h.1 (by simp)) (yields_val (v := (.slice t.A t.xs.length t.c)) rfl (fun _ => by go_simp)) ⟨Rs.at_ H, Rt.at_ H⟩ ?_
            (try simp only [Act.put, List.setIfInBounds_toArray, List.set_cons_succ, List.set_cons_zero])
            refine takeH (i := 5) rfl (.there (.there (.there (.there (.there .here))))) (by kernel_rfl) (by kernel_rfl) (by kernel_rfl) (fun _ _ _ h => absurd h.1 (by simp)) (yields_val (v := (.int .i64 k)) rfl (fun _ => by go_simp)) ⟨Rs.at_ H, Rt.at_ H⟩ ?_
            (try simp only [Act.put, List.setIfInBounds_toArray, List.set_cons_succ, List.set_cons_zero])
            refine takeH (i := 6) rfl (.there (.there (.there (.there (.there (.there .here)))))) (by kernel_rfl) (by kernel_rfl) (by kernel_rfl) (fun _ _ _ h => absurd h.1 (by simp)) (yields_index_nT rfl rfl (k := k) t (fun _ hS => hS.2) rfl rfl rfl hk1) ⟨Rs.at_ H, Rt.at_ H⟩ ?_
            (try simp only [Act.put, List.setIfInBounds_toArray, List.set_cons_succ, List.set_cons_zero])
            refine takeH (i := 7) rfl (.there (.there (.there (.there (.there (.there (.there .here))))))) (by kernel_rfl) (by kernel_rfl) (by kernel_rfl) (fun _ _ _ h => absurd h.1 (by simp)) (yields_load_rdT rfl rfl t (fun _ hS => hS.2) rfl y HY.out (by first | exact rfl | exact (Nat.add_zero _).symm) rfl) ⟨Rs.at_ H, Rt.at_ H⟩ ?_
            (try simp only [Act.put, List.setIfInBounds_toArray, List.set_cons_succ, List.set_cons_zero])
            refine takeH (i := 8) rfl (.there (.there (.there (.there (.there (.there (.there (.there .here)))))))) (by kernel_rfl) (by kernel_rfl) (by kernel_rfl) (fun _ _ _ h => absurd h.1 (by simp)) (yields_val (v := (.bool true)) rfl (fun _ => by (first | (go_simp; done) | (go_simp; rw [e1]) | (rw [← e1]; go_simp; done) | (go_simp; omega) | (go_simp; simpa using e1)))) ⟨Rs.at_ H, Rt.at_ H⟩ ?_
            (try simp only [Act.put, List.setIfInBounds_toArray, List.set_cons_succ, List.set_cons_zero])
            refine wpAnyH_done (by kernel_rfl) ?_ _
            exact ⟨rfl, (), H.pick .nil, by first | (simp only [puts_cons, puts_nil, Act.put, List.setIfInBounds_toArray, List.set_cons_succ, List.set_cons_zero]; done) | (simp only [puts_cons, puts_nil, Act.put, List.setIfInBounds_toArray, List.set_cons_succ, List.set_cons_zero]; rfl)⟩
          clear H
          rintro u w ⟨_, H, rfl⟩
          simp only [puts_cons, puts_nil, Act.put, List.setIfInBounds_toArray, List.set_cons_succ, List.set_cons_zero]
          go_wp2
          go_ret
          exact ⟨ret_bool (list_neF HX.out HY.out (bne_iff_ne.1 e1)), H.pick .nil⟩
      · have hke : k = s.xs.length := by omega
        subst hke
        have hn0 : t.xs.length ≤ s.xs.length := by rw [HL.out]; exact Nat.le_refl _
        go_wp2
        go_ret
        refine ⟨ret_bool ?_, H⟩
        have h := HT.out
        rw [List.take_length, HL.out, List.take_length] at h
        simp [h]
  · have l1 : (s.xs.length == t.xs.length) = false := by simp [hl]
    have l2 : (s.xs.length != t.xs.length) = true := by simp [hl]
    have l3 : ((s.xs.length : Int) == (t.xs.length : Int)) = false := by simp; omega
    have l4 : ((s.xs.length : Int) != (t.xs.length : Int)) = true := by simp; omega
    go_enter Try.func30, Try.ntmps30
    go_wp2
    go_ret
    refine ⟨ret_bool ?_, H⟩
    symm
    rw [beq_eq_false_iff_ne]
    intro h
    exact hl (by rw [h])
set_option linter.unusedSimpArgs false in
set_option linter.unusedVariables false in
set_option maxRecDepth 100000 in
set_option maxHeartbeats 4000000 in
theorem sameInts_c (s t : Sl Int) (W0 : World) (Rs : Rd icell 1 W0 s) (Rt : Rd icell 1 W0 t) (Z : s.xs.length ≤ 4194304) : Calls Try.prog 24 #[.slice s.A s.xs.length s.c, .slice t.A t.xs.length t.c] W0 fun e w' => e = .returned (.bool (s.xs == t.xs)) ∧ Hp W0 w' [] := by
  have H := Hp.start W0
  by_cases hl : s.xs.length = t.xs.length
  · have l1 : (s.xs.length == t.xs.length) = true := beq_iff_eq.2 hl
    have l2 : (s.xs.length != t.xs.length) = false := by simp [hl]
    have l3 : ((s.xs.length : Int) == (t.xs.length : Int)) = true := by simp [hl]
    have l4 : ((s.xs.length : Int) != (t.xs.length : Int)) = false := by simp [hl]
    have HL := Lib.hid hl; clear hl
    go_enter Try.func24, Try.ntmps24
    go_wp2
    clear l1 l2 l3 l4
    go_loopw [5] (fun i wr => ∃ k : Nat, k ≤ s.xs.length ∧ i = .int .i64 k ∧ Hid (s.xs.take k = t.xs.take k) ∧ Hp W0 wr []) (fun i _ => s.xs.length - (intOf i).toNat)
    case atStart => exact ⟨0, by omega, rfl, Lib.hid (by simp), H⟩
    case round =>
      clear H
      obtain ⟨k, hk, rfl, HT, H⟩ := hrel
      by_cases hk0 : k < s.xs.length
      · have hk1 : k < t.xs.length := by rw [← HL.out]; exact hk0
        obtain ⟨x, hx0⟩ : ∃ x, s.xs[k]? = some x := ⟨_, List.getElem?_eq_getElem hk0⟩
        have HX := Lib.hid hx0; clear hx0
        obtain ⟨y, hy0⟩ : ∃ y, t.xs[k]? = some y := ⟨_, List.getElem?_eq_getElem hk1⟩
        have HY := Lib.hid hy0; clear hy0
        cases e1 : (x != y)
        · skip
          go_wp2_with (first
            | go_skip
            | ((with_reducible refine at_box ?_); first | (refine wpList_box_H rfl rfl H rfl (by first | exact CellsOf.agg | exact CellsOf.int | exact CellsOf.bool | exact CellsOf.slice | exact CellsOf.string | exact CellsOf.pointer | exact CellsOf.func) ?_; clear H; intro b w H))
            | ((with_reducible refine at_alloc ?_); first | (refine wpList_alloc_H rfl rfl H ?_; clear H; intro b w H))
            | ((with_reducible refine at_load ?_); first | (refine wpList_load_H rfl rfl H rfl (by repeat (first | exact LoadAt.here rfl | apply LoadAt.there)) ?_) | (refine wpList_loads_H rfl rfl H rfl (by repeat (first | (apply LoadsAt.here; repeat (first | exact GetsAt.nil | apply GetsAt.here | apply GetsAt.there)) | apply LoadsAt.there)) ?_))
            | ((with_reducible refine at_store ?_); first | (refine wpList_store_H rfl rfl H rfl rfl (by repeat (first | (apply StoreAt.here; (first | exact CellsOf.agg | exact CellsOf.int | exact CellsOf.bool | exact CellsOf.slice | exact CellsOf.string | exact CellsOf.pointer | exact CellsOf.func); (repeat (first | exact SetsAt.nil | apply SetsAt.here | apply SetsAt.there)); exact rfl; exact rfl) | apply StoreAt.there)) ?_; clear H; intro w H)))
          refine wp_cut (fun u a' w' => ∃ (_ : Unit), Hp W0 w' [] ∧ a' = puts u [(17, (.slice s.A s.xs.length s.c)), (18, (.int .i64 k)), (19, (.pointer (some ⟨ablk s.A, aoff s.A + k * 1, none⟩))), (20, (.int .i64 x)), (21, (.slice t.A t.xs.length t.c)), (22, (.int .i64 k)), (23, (.pointer (some ⟨ablk t.A, aoff t.A + k * 1, none⟩))), (24, (.int .i64 y)), (25, (.bool false))]) ?_ ?_
          · refine wp_region_held (S := (fun w' => Rd icell 1 w' s ∧ Rd icell 1 w' t)) (by kernel_rfl) ?_
            replace H := H.drew
            refine takeH (i := 0) rfl .here (by kernel_rfl) (by kernel_rfl) (by kernel_rfl) (fun _ _ _ h => absurd h.1 (by simp)) (yields_val (v := (.slice s.A s.xs.length s.c)) rfl (fun _ => by go_simp)) ⟨Rs.at_ H, Rt.at_ H⟩ ?_
            (try simp only [Act.put, List.setIfInBounds_toArray, List.set_cons_succ, List.set_cons_zero])
            refine takeH (i := 1) rfl (.there .here) (by kernel_rfl) (by kernel_rfl) (by kernel_rfl) (fun _ _ _ h => absurd h.1 (by simp)) (yields_val (v := (.int .i64 k)) rfl (fun _ => by go_simp)) ⟨Rs.at_ H, Rt.at_ H⟩ ?_
            (try simp only [Act.put, List.setIfInBounds_toArray, List.set_cons_succ, List.set_cons_zero])
            refine takeH (i := 2) rfl (.there (.there .here)) (by kernel_rfl) (by kernel_rfl) (by kernel_rfl) (fun _ _ _ h => absurd h.1 (by simp)) (yields_index_nT rfl rfl (k := k) s (fun _ hS => hS.1) rfl rfl rfl hk0) ⟨Rs.at_ H, Rt.at_ H⟩ ?_
            (try simp only [Act.put, List.setIfInBounds_toArray, List.set_cons_succ, List.set_cons_zero])
            refine takeH (i := 3) rfl (.there (.there (.there .here))) (by kernel_rfl) (by kernel_rfl) (by kernel_rfl) (fun _ _ _ h => absurd h.1 (by simp)) (yields_load_rdT rfl rfl s (fun _ hS => hS.1) rfl x HX.out (by first | exact rfl | exact (Nat.add_zero _).symm) rfl) ⟨Rs.at_ H, Rt.at_ H⟩ ?_
            (try simp only [Act.put, List.setIfInBounds_toArray, List.set_cons_succ, List.set_cons_zero])
            refine takeH (i := 4) rfl (.there (.there (.there (.there .here)))) (by kernel_rfl) (by kernel_rfl) (by kernel_rfl) (fun _ _ _ h => absurd h.1 (by simp)) (yields_val (v := (.slice t.A t.xs.length t.c)) rfl (fun _ => by go_simp)) ⟨Rs.at_ H, Rt.at_ H⟩ ?_
            (try simp only [Act.put, List.setIfInBounds_toArray, List.set_cons_succ, List.set_cons_zero])
            refine takeH (i := 5) rfl (.there (.there (.there (.there (.there .here))))) (by kernel_rfl) (by kernel_rfl) (by kernel_rfl) (fun _ _ _ h => absurd h.1 (by simp)) (yields_val (v := (.int .i64 k)) rfl (fun _ => by go_simp)) ⟨Rs.at_ H, Rt.at_ H⟩ ?_
            (try simp only [Act.put, List.setIfInBounds_toArray, List.set_cons_succ, List.set_cons_zero])
            refine takeH (i := 6) rfl (.there (.there (.there (.there (.there (.there .here)))))) (by kernel_rfl) (by kernel_rfl) (by kernel_rfl) (fun _ _ _ h => absurd h.1 (by simp)) (yields_index_nT rfl rfl (k := k) t (fun _ hS => hS.2) rfl rfl rfl hk1) ⟨Rs.at_ H, Rt.at_ H⟩ ?_
            (try simp only [Act.put, List.setIfInBounds_toArray, List.set_cons_succ, List.set_cons_zero])
            refine takeH (i := 7) rfl (.there (.there (.there (.there (.there (.there (.there .here))))))) (by kernel_rfl) (by kernel_rfl) (by kernel_rfl) (fun _ _ _ h => absurd h.1 (by simp)) (yields_load_rdT rfl rfl t (fun _ hS => hS.2) rfl y HY.out (by first | exact rfl | exact (Nat.add_zero _).symm) rfl) ⟨Rs.at_ H, Rt.at_ H⟩ ?_
            (try simp only [Act.put, List.setIfInBounds_toArray, List.set_cons_succ, List.set_cons_zero])
            refine takeH (i := 8) rfl (.there (.there (.there (.there (.there (.there (.there (.there .here)))))))) (by kernel_rfl) (by kernel_rfl) (by kernel_rfl) (fun _ _ _ h => absurd h.1 (by simp)) (yields_val (v := (.bool false)) rfl (fun _ => by (first | (go_simp; done) | (go_simp; rw [e1]) | (rw [← e1]; go_simp; done) | (go_simp; omega) | (go_simp; simpa using e1)))) ⟨Rs.at_ H, Rt.at_ H⟩ ?_
            (try simp only [Act.put, List.setIfInBounds_toArray, List.set_cons_succ, List.set_cons_zero])
            refine wpAnyH_done (by kernel_rfl) ?_ _
            exact ⟨rfl, (), H.pick .nil, by first | (simp only [puts_cons, puts_nil, Act.put, List.setIfInBounds_toArray, List.set_cons_succ, List.set_cons_zero]; done) | (simp only [puts_cons, puts_nil, Act.put, List.setIfInBounds_toArray, List.set_cons_succ, List.set_cons_zero]; rfl)⟩
          clear H
          rintro u w ⟨_, H, rfl⟩
          simp only [puts_cons, puts_nil, Act.put, List.setIfInBounds_toArray, List.set_cons_succ, List.set_cons_zero]
          go_wp2
          go_roundw
          case rel => exact ⟨k + 1, by omega, by go_num, Lib.hid (take_eqF HT.out HX.out HY.out (bne_eq_false_iff_eq.1 e1)), H.pick .nil⟩
          case measure => simp [intOf]; omega
        · skip
          go_wp2_with (first
            | go_skip
            | ((with_reducible refine at_box ?_); first | (refine wpList_box_H rfl rfl H rfl (by first | exact CellsOf.agg | exact CellsOf.int | exact CellsOf.bool | exact CellsOf.slice | exact CellsOf.string | exact CellsOf.pointer | exact CellsOf.func) ?_; clear H; intro b w H))
            | ((with_reducible refine at_alloc ?_); first | (refine wpList_alloc_H rfl rfl H ?_; clear H; intro b w H))
            | ((with_reducible refine at_load ?_); first | (refine wpList_load_H rfl rfl H rfl (by repeat (first | exact LoadAt.here rfl | apply LoadAt.there)) ?_) | (refine wpList_loads_H rfl rfl H rfl (by repeat (first | (apply LoadsAt.here; repeat (first | exact GetsAt.nil | apply GetsAt.here | apply GetsAt.there)) | apply LoadsAt.there)) ?_))
            | ((with_reducible refine at_store ?_); first | (refine wpList_store_H rfl rfl H rfl rfl (by repeat (first | (apply StoreAt.here; (first | exact CellsOf.agg | exact CellsOf.int | exact CellsOf.bool | exact CellsOf.slice | exact CellsOf.string | exact CellsOf.pointer | exact CellsOf.func); (repeat (first | exact SetsAt.nil | apply SetsAt.here | apply SetsAt.there)); exact rfl; exact rfl) | apply StoreAt.there)) ?_; clear H; intro w H)))
          refine wp_cut (fun u a' w' => ∃ (_ : Unit), Hp W0 w' [] ∧ a' = puts u [(17, (.slice s.A s.xs.length s.c)), (18, (.int .i64 k)), (19, (.pointer (some ⟨ablk s.A, aoff s.A + k * 1, none⟩))), (20, (.int .i64 x)), (21, (.slice t.A t.xs.length t.c)), (22, (.int .i64 k)), (23, (.pointer (some ⟨ablk t.A, aoff t.A + k * 1, none⟩))), (24, (.int .i64 y)), (25, (.bool true))]) ?_ ?_
          · refine wp_region_held (S := (fun w' => Rd icell 1 w' s ∧ Rd icell 1 w' t)) (by kernel_rfl) ?_
            replace H := H.drew
            refine takeH (i := 0) rfl .here (by kernel_rfl) (by kernel_rfl) (by kernel_rfl) (fun _ _ _ h => absurd h.1 (by simp)) (yields_val (v := (.slice s.A s.xs.length s.c)) rfl (fun _ => by go_simp)) ⟨Rs.at_ H, Rt.at_ H⟩ ?_
            (try simp only [Act.put, List.setIfInBounds_toArray, List.set_cons_succ, List.set_cons_zero])
            refine takeH (i := 1) rfl (.there .here) (by kernel_rfl) (by kernel_rfl) (by kernel_rfl) (fun _ _ _ h => absurd h.1 (by simp)) (yields_val (v := (.int .i64 k)) rfl (fun _ => by go_simp)) ⟨Rs.at_ H, Rt.at_ H⟩ ?_
            (try simp only [Act.put, List.setIfInBounds_toArray, List.set_cons_succ, List.set_cons_zero])
            refine takeH (i := 2) rfl (.there (.there .here)) (by kernel_rfl) (by kernel_rfl) (by kernel_rfl) (fun _ _ _ h => absurd h.1 (by simp)) (yields_index_nT rfl rfl (k := k) s (fun _ hS => hS.1) rfl rfl rfl hk0) ⟨Rs.at_ H, Rt.at_ H⟩ ?_
            (try simp only [Act.put, List.setIfInBounds_toArray, List.set_cons_succ, List.set_cons_zero])
            refine takeH (i := 3) rfl (.there (.there (.there .here))) (by kernel_rfl) (by kernel_rfl) (by kernel_rfl) (fun _ _ _ h => absurd h.1 (by simp)) (yields_load_rdT rfl rfl s (fun _ hS => hS.1) rfl x HX.out (by first | exact rfl | exact (Nat.add_zero _).symm) rfl) ⟨Rs.at_ H, Rt.at_ H⟩ ?_
            (try simp only [Act.put, List.setIfInBounds_toArray, List.set_cons_succ, List.set_cons_zero])
            refine takeH (i := 4) rfl (.there (.there (.there (.there .here)))) (by kernel_rfl) (by kernel_rfl) (by kernel_rfl) (fun _ _ _ h => absurd h.1 (by simp)) (yields_val (v := (.slice t.A t.xs.length t.c)) rfl (fun _ => by go_simp)) ⟨Rs.at_ H, Rt.at_ H⟩ ?_
            (try simp only [Act.put, List.setIfInBounds_toArray, List.set_cons_succ, List.set_cons_zero])
            refine takeH (i := 5) rfl (.there (.there (.there (.there (.there .here))))) (by kernel_rfl) (by kernel_rfl) (by kernel_rfl) (fun _ _ _ h => absurd h.1 (by simp)) (yields_val (v := (.int .i64 k)) rfl (fun _ => by go_simp)) ⟨Rs.at_ H, Rt.at_ H⟩ ?_
            (try simp only [Act.put, List.setIfInBounds_toArray, List.set_cons_succ, List.set_cons_zero])
            refine takeH (i := 6) rfl (.there (.there (.there (.there (.there (.there .here)))))) (by kernel_rfl) (by kernel_rfl) (by kernel_rfl) (fun _ _ _ h => absurd h.1 (by simp)) (yields_index_nT rfl rfl (k := k) t (fun _ hS => hS.2) rfl rfl rfl hk1) ⟨Rs.at_ H, Rt.at_ H⟩ ?_
            (try simp only [Act.put, List.setIfInBounds_toArray, List.set_cons_succ, List.set_cons_zero])
            refine takeH (i := 7) rfl (.there (.there (.there (.there (.there (.there (.there .here))))))) (by kernel_rfl) (by kernel_rfl) (by kernel_rfl) (fun _ _ _ h => absurd h.1 (by simp)) (yields_load_rdT rfl rfl t (fun _ hS => hS.2) rfl y HY.out (by first | exact rfl | exact (Nat.add_zero _).symm) rfl) ⟨Rs.at_ H, Rt.at_ H⟩ ?_
            (try simp only [Act.put, List.setIfInBounds_toArray, List.set_cons_succ, List.set_cons_zero])
            refine takeH (i := 8) rfl (.there (.there (.there (.there (.there (.there (.there (.there .here)))))))) (by kernel_rfl) (by kernel_rfl) (by kernel_rfl) (fun _ _ _ h => absurd h.1 (by simp)) (yields_val (v := (.bool true)) rfl (fun _ => by (first | (go_simp; done) | (go_simp; rw [e1]) | (rw [← e1]; go_simp; done) | (go_simp; omega) | (go_simp; simpa using e1)))) ⟨Rs.at_ H, Rt.at_ H⟩ ?_
            (try simp only [Act.put, List.setIfInBounds_toArray, List.set_cons_succ, List.set_cons_zero])
            refine wpAnyH_done (by kernel_rfl) ?_ _
            exact ⟨rfl, (), H.pick .nil, by first | (simp only [puts_cons, puts_nil, Act.put, List.setIfInBounds_toArray, List.set_cons_succ, List.set_cons_zero]; done) | (simp only [puts_cons, puts_nil, Act.put, List.setIfInBounds_toArray, List.set_cons_succ, List.set_cons_zero]; rfl)⟩
          clear H
          rintro u w ⟨_, H, rfl⟩
          simp only [puts_cons, puts_nil, Act.put, List.setIfInBounds_toArray, List.set_cons_succ, List.set_cons_zero]
          go_wp2
          go_ret
          exact ⟨ret_bool (list_neF HX.out HY.out (bne_iff_ne.1 e1)), H.pick .nil⟩
      · have hke : k = s.xs.length := by omega
        subst hke
        have hn0 : t.xs.length ≤ s.xs.length := by rw [HL.out]; exact Nat.le_refl _
        go_wp2
        go_ret
        refine ⟨ret_bool ?_, H⟩
        have h := HT.out
        rw [List.take_length, HL.out, List.take_length] at h
        simp [h]
  · have l1 : (s.xs.length == t.xs.length) = false := by simp [hl]
    have l2 : (s.xs.length != t.xs.length) = true := by simp [hl]
    have l3 : ((s.xs.length : Int) == (t.xs.length : Int)) = false := by simp; omega
    have l4 : ((s.xs.length : Int) != (t.xs.length : Int)) = true := by simp; omega
    go_enter Try.func24, Try.ntmps24
    go_wp2
    go_ret
    refine ⟨ret_bool ?_, H⟩
    symm
    rw [beq_eq_false_iff_ne]
    intro h
    exact hl (by rw [h])
end Go.Proofs.Ytjiiobliadeldaa
