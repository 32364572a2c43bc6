/- Slices of bools: cells, comparisons, marks. No condition but that the arguments lie in memory. -/
import Derived.Maps.RangeWalk
import Derived.Test.YtaafnenmdombiaaGreatBza
import Derived.Test.YtaafnenmdombiaaGreatGd
import Derived.Test.YtaafnenmdombiaaGreatDl
import Derived.Test.YtaafnenmdombiaaGreatStj
namespace Go.Proofs.YtaafnenmdombiaaGreat
set_option linter.unusedSimpArgs false
set_option linter.unusedVariables false
open Go.RowKit
attribute [local go_sem ↓] Go.wp_at_zero Go.wp_at_succ
section
variable {ops : Array Oper} {S : World → Prop} {o : Oper} {a : Act} {α : Type} {enc : α → List Value} {sz e : Nat} {P : Program}
theorem yields_index_nT (hw : Region.wanted o (yielded ops a.tmps) = true) {t : TypeId} {x ix : Operand} (ho : o.op = .indexAddr t x ix) {bytes : Nat} [hE : EI P t enc sz bytes e] (s : Sl α) (hR : ∀ w, S w → Rd enc sz w s) {k m : Nat} (hx : a.eval x = .slice s.A m s.c) (hi : a.eval ix = .int .i64 k)
    (hm : s.xs.length = m) (h1 : k < m) : YieldsIf P ops S o (.pointer (some ⟨ablk s.A, aoff s.A + k * sz, none⟩)) a := by
  subst hm
  refine .inl ⟨hw, fun w hS => ?_⟩
  obtain ⟨i, z, hi', hz, hsize, hby, hzs⟩ := hE.info.hi
  obtain ⟨hA, _⟩ := (hR w hS).addr (k := k) h1
  have hr : (Instr.indexAt t (.slice s.A s.xs.length s.c) (.int .i64 k)).run P w = .ok (.pointer (some ⟨ablk s.A, aoff s.A + k * sz, none⟩)) w := by
    rw [hA]
    simp [Instr.indexAt, asIntOf, run_underlying hE.info.ht, sizeOf, typeInfo, hi', hsize, h1, addj, ablk, aoff, go_sem]
  unfold execOp
  simp only [ho, hx, hi, Sem.run_bind, Sem.run_pure, Result.andThen_ok, hr]
theorem yields_load_rdT (hw : Region.wanted o (yielded ops a.tmps) = true) {ty : TypeId} {x : Operand} (ho : o.op = .load ty x) (s : Sl α) (hR : ∀ w, S w → Rd enc sz w s) {q : Nat} (hx : a.eval x = .pointer (some ⟨ablk s.A, q, none⟩)) [hT : TyS P ty] {k : Nat} (y : α) (hk : s.xs[k]? = some y) {j : Nat} (hq : q = aoff s.A + k * sz + j) {v : Value} (hv : (enc y)[j]? = some v) :
    YieldsIf P ops S o v a := by
  subst hq
  refine .inl ⟨hw, fun w hS => ?_⟩
  have hr : (Instr.loadAt ty (a.eval x)).run P w = .ok v w := by rw [hx]; exact run_load_rd (hR w hS) hT hk hv
  unfold execOp
  simp only [ho, Sem.run_bind, Sem.run_pure, Result.andThen_ok, hr]
end
abbrev bcel (b : Bool) : List Value := [.bool b]
theorem bool_len (b : Bool) : (bcel b).length = 1 := rfl
theorem bool_one (b : Bool) : ∀ u ∈ bcel b, u.oneCell' = true := by
  intro u hu
  simp only [List.mem_cons, List.not_mem_nil, or_false] at hu
  subst hu; rfl
theorem info_boolT : (Tryz.prog.info? 4).map (fun i => (i.zero, i.size, i.bytes)) = some (some (.bool false), 1, 1) := by kernel_rfl
instance eiBools : EI Tryz.prog 76 bcel 1 1 4 := ⟨⟨Tryz.underlying76, by obtain ⟨i, h1, h2, h3, h4⟩ := info_parts info_boolT; exact ⟨i, _, h1, h2, h3, h4, rfl⟩, by decide, bool_len, bool_one⟩⟩
abbrev En.bools (s : Sl Bool) : En := En.sl bcel 1 4 s
theorem take_eqF {α : Type} {xs ys : List α} {k : Nat} (h : xs.take k = ys.take k) {x y : α} (hx : xs[k]? = some x) (hy : ys[k]? = some y) (hxy : x = y) : xs.take (k + 1) = ys.take (k + 1) := by
  rw [List.take_add_one, List.take_add_one, h, hx, hy, hxy]
theorem list_neF {α : Type} [BEq α] [LawfulBEq α] {xs ys : List α} {k : Nat} {x y : α} (hx : xs[k]? = some x) (hy : ys[k]? = some y) (hxy : x ≠ y) : false = (xs == ys) := by
  symm
  rw [beq_eq_false_iff_ne]
  rintro rfl
  rw [hx] at hy; injection hy with hy; exact hxy hy
set_option maxRecDepth 100000 in
set_option maxHeartbeats 4000000 in
theorem sameBools_c (s t : Sl Bool) (W0 : World) (Rs : Rd bcel 1 W0 s) (Rt : Rd bcel 1 W0 t) (Z : s.xs.length ≤ 4194304) : Calls Tryz.prog 56 #[.slice s.A s.xs.length s.c, .slice t.A t.xs.length t.c] W0 fun e w' => e = .returned (.bool (s.xs == t.xs)) ∧ Hp W0 w' [] := by
  have H := Hp.start W0
  by_cases hl : s.xs.length = t.xs.length
  · have l1 : (s.xs.length == t.xs.length) = true := beq_iff_eq.2 hl
    have l2 : (s.xs.length != t.xs.length) = false := by simp [hl]
    have l3 : ((s.xs.length : Int) == (t.xs.length : Int)) = true := by simp [hl]
    have l4 : ((s.xs.length : Int) != (t.xs.length : Int)) = false := by simp [hl]
    have HL := Lib.hid hl; clear hl
    go_enter Tryz.func56, Tryz.ntmps56
    go_wp2
    clear l1 l2 l3 l4
    go_loopw [5] (fun i wr => ∃ k : Nat, k ≤ s.xs.length ∧ i = .int .i64 k ∧ Hid (s.xs.take k = t.xs.take k) ∧ Hp W0 wr []) (fun i _ => s.xs.length - (intOf i).toNat)
    case atStart => exact ⟨0, by omega, rfl, Lib.hid (by simp), H⟩
    case round =>
      clear H
      obtain ⟨k, hk, rfl, HT, H⟩ := hrel
      by_cases hk0 : k < s.xs.length
      · have hk1 : k < t.xs.length := by rw [← HL.out]; exact hk0
        obtain ⟨x, hx0⟩ : ∃ x, s.xs[k]? = some x := ⟨_, List.getElem?_eq_getElem hk0⟩
        have HX := Lib.hid hx0; clear hx0
        obtain ⟨y, hy0⟩ : ∃ y, t.xs[k]? = some y := ⟨_, List.getElem?_eq_getElem hk1⟩
        have HY := Lib.hid hy0; clear hy0
        cases e1 : (x != y)
        · skip
          go_wp2_with (first
            | go_skip
            | ((with_reducible refine at_box ?_); first | (refine wpList_box_H rfl rfl H rfl (by constructor) ?_; clear H; intro b w H))
            | ((with_reducible refine at_alloc ?_); first | (refine wpList_alloc_H rfl rfl H ?_; clear H; intro b w H))
            | ((with_reducible refine at_load ?_); first | (refine wpList_load_H rfl rfl H rfl (by repeat constructor) ?_) | (refine wpList_loads_H rfl rfl H rfl (by repeat constructor) ?_))
            | ((with_reducible refine at_store ?_); first | (refine wpList_store_H rfl rfl H rfl rfl (by repeat constructor) ?_; clear H; intro w H)))
          refine wp_cut (fun u a' w' => ∃ (_ : Unit), Hp W0 w' [] ∧ a' = puts u [(17, (.slice s.A s.xs.length s.c)), (18, (.int .i64 k)), (19, (.pointer (some ⟨ablk s.A, aoff s.A + k * 1, none⟩))), (20, (.bool x)), (21, (.slice t.A t.xs.length t.c)), (22, (.int .i64 k)), (23, (.pointer (some ⟨ablk t.A, aoff t.A + k * 1, none⟩))), (24, (.bool y)), (25, (.bool false))]) ?_ ?_
          · refine wp_region_held (S := (fun w' => Rd bcel 1 w' s ∧ Rd bcel 1 w' t)) (by kernel_rfl) ?_
            replace H := H.drew
            refine tkH (i := 0) rfl .here (yields_val (v := (.slice s.A s.xs.length s.c)) rfl (fun _ => by go_simp)) ⟨Rs.at_ H, Rt.at_ H⟩ ?_
            (try go_frame)
            refine tkH (i := 1) rfl (.of rfl) (yields_val (v := (.int .i64 k)) rfl (fun _ => by go_simp)) ⟨Rs.at_ H, Rt.at_ H⟩ ?_
            (try go_frame)
            refine tkH (i := 2) rfl (.of rfl) (yields_index_nT rfl rfl (k := k) s (fun _ hS => hS.1) rfl rfl rfl hk0) ⟨Rs.at_ H, Rt.at_ H⟩ ?_
            (try go_frame)
            refine tkH (i := 3) rfl (.of rfl) (yields_load_rdT rfl rfl s (fun _ hS => hS.1) rfl x HX.out (by first | exact rfl | exact (Nat.add_zero _).symm) rfl) ⟨Rs.at_ H, Rt.at_ H⟩ ?_
            (try go_frame)
            refine tkH (i := 4) rfl (.of rfl) (yields_val (v := (.slice t.A t.xs.length t.c)) rfl (fun _ => by go_simp)) ⟨Rs.at_ H, Rt.at_ H⟩ ?_
            (try go_frame)
            refine tkH (i := 5) rfl (.of rfl) (yields_val (v := (.int .i64 k)) rfl (fun _ => by go_simp)) ⟨Rs.at_ H, Rt.at_ H⟩ ?_
            (try go_frame)
            refine tkH (i := 6) rfl (.of rfl) (yields_index_nT rfl rfl (k := k) t (fun _ hS => hS.2) rfl rfl rfl hk1) ⟨Rs.at_ H, Rt.at_ H⟩ ?_
            (try go_frame)
            refine tkH (i := 7) rfl (.of rfl) (yields_load_rdT rfl rfl t (fun _ hS => hS.2) rfl y HY.out (by first | exact rfl | exact (Nat.add_zero _).symm) rfl) ⟨Rs.at_ H, Rt.at_ H⟩ ?_
            (try go_frame)
            refine tkH (i := 8) rfl (.of rfl) (yields_val (v := (.bool false)) rfl (fun _ => by (first | (go_simp; done) | (go_simp; rw [e1]) | (rw [← e1]; go_simp; done) | (go_simp; omega) | (go_simp; simpa using e1)))) ⟨Rs.at_ H, Rt.at_ H⟩ ?_
            (try go_frame)
            refine wpAnyH_done (by kernel_rfl) ?_ _
            exact ⟨rfl, (), H.pick .nil, by first | (simp only [puts_cons, puts_nil, Act.put, List.setIfInBounds_toArray, List.set_cons_succ, List.set_cons_zero]; done) | (simp only [puts_cons, puts_nil, Act.put, List.setIfInBounds_toArray, List.set_cons_succ, List.set_cons_zero]; rfl)⟩
          clear H
          rintro u w ⟨_, H, rfl⟩
          simp only [puts_cons, puts_nil, Act.put, List.setIfInBounds_toArray, List.set_cons_succ, List.set_cons_zero]
          go_wp2
          go_roundw
          case rel => exact ⟨k + 1, by omega, by go_num, Lib.hid (take_eqF HT.out HX.out HY.out (bne_eq_false_iff_eq.1 e1)), H.pick .nil⟩
          case measure => simp [intOf]; omega
        · skip
          go_wp2_with (first
            | go_skip
            | ((with_reducible refine at_box ?_); first | (refine wpList_box_H rfl rfl H rfl (by constructor) ?_; clear H; intro b w H))
            | ((with_reducible refine at_alloc ?_); first | (refine wpList_alloc_H rfl rfl H ?_; clear H; intro b w H))
            | ((with_reducible refine at_load ?_); first | (refine wpList_load_H rfl rfl H rfl (by repeat constructor) ?_) | (refine wpList_loads_H rfl rfl H rfl (by repeat constructor) ?_))
            | ((with_reducible refine at_store ?_); first | (refine wpList_store_H rfl rfl H rfl rfl (by repeat constructor) ?_; clear H; intro w H)))
          refine wp_cut (fun u a' w' => ∃ (_ : Unit), Hp W0 w' [] ∧ a' = puts u [(17, (.slice s.A s.xs.length s.c)), (18, (.int .i64 k)), (19, (.pointer (some ⟨ablk s.A, aoff s.A + k * 1, none⟩))), (20, (.bool x)), (21, (.slice t.A t.xs.length t.c)), (22, (.int .i64 k)), (23, (.pointer (some ⟨ablk t.A, aoff t.A + k * 1, none⟩))), (24, (.bool y)), (25, (.bool true))]) ?_ ?_
          · refine wp_region_held (S := (fun w' => Rd bcel 1 w' s ∧ Rd bcel 1 w' t)) (by kernel_rfl) ?_
            replace H := H.drew
            refine tkH (i := 0) rfl .here (yields_val (v := (.slice s.A s.xs.length s.c)) rfl (fun _ => by go_simp)) ⟨Rs.at_ H, Rt.at_ H⟩ ?_
            (try go_frame)
            refine tkH (i := 1) rfl (.of rfl) (yields_val (v := (.int .i64 k)) rfl (fun _ => by go_simp)) ⟨Rs.at_ H, Rt.at_ H⟩ ?_
            (try go_frame)
            refine tkH (i := 2) rfl (.of rfl) (yields_index_nT rfl rfl (k := k) s (fun _ hS => hS.1) rfl rfl rfl hk0) ⟨Rs.at_ H, Rt.at_ H⟩ ?_
            (try go_frame)
            refine tkH (i := 3) rfl (.of rfl) (yields_load_rdT rfl rfl s (fun _ hS => hS.1) rfl x HX.out (by first | exact rfl | exact (Nat.add_zero _).symm) rfl) ⟨Rs.at_ H, Rt.at_ H⟩ ?_
            (try go_frame)
            refine tkH (i := 4) rfl (.of rfl) (yields_val (v := (.slice t.A t.xs.length t.c)) rfl (fun _ => by go_simp)) ⟨Rs.at_ H, Rt.at_ H⟩ ?_
            (try go_frame)
            refine tkH (i := 5) rfl (.of rfl) (yields_val (v := (.int .i64 k)) rfl (fun _ => by go_simp)) ⟨Rs.at_ H, Rt.at_ H⟩ ?_
            (try go_frame)
            refine tkH (i := 6) rfl (.of rfl) (yields_index_nT rfl rfl (k := k) t (fun _ hS => hS.2) rfl rfl rfl hk1) ⟨Rs.at_ H, Rt.at_ H⟩ ?_
            (try go_frame)
            refine tkH (i := 7) rfl (.of rfl) (yields_load_rdT rfl rfl t (fun _ hS => hS.2) rfl y HY.out (by first | exact rfl | exact (Nat.add_zero _).symm) rfl) ⟨Rs.at_ H, Rt.at_ H⟩ ?_
            (try go_frame)
            refine tkH (i := 8) rfl (.of rfl) (yields_val (v := (.bool true)) rfl (fun _ => by (first | (go_simp; done) | (go_simp; rw [e1]) | (rw [← e1]; go_simp; done) | (go_simp; omega) | (go_simp; simpa using e1)))) ⟨Rs.at_ H, Rt.at_ H⟩ ?_
            (try go_frame)
            refine wpAnyH_done (by kernel_rfl) ?_ _
            exact ⟨rfl, (), H.pick .nil, by first | (simp only [puts_cons, puts_nil, Act.put, List.setIfInBounds_toArray, List.set_cons_succ, List.set_cons_zero]; done) | (simp only [puts_cons, puts_nil, Act.put, List.setIfInBounds_toArray, List.set_cons_succ, List.set_cons_zero]; rfl)⟩
          clear H
          rintro u w ⟨_, H, rfl⟩
          simp only [puts_cons, puts_nil, Act.put, List.setIfInBounds_toArray, List.set_cons_succ, List.set_cons_zero]
          go_wp2
          go_ret
          exact ⟨ret_bool (list_neF HX.out HY.out (bne_iff_ne.1 e1)), H.pick .nil⟩
      · have hke : k = s.xs.length := by omega
        subst hke
        have hn0 : t.xs.length ≤ s.xs.length := by rw [HL.out]; exact Nat.le_refl _
        go_wp2
        go_ret
        refine ⟨ret_bool ?_, H⟩
        have h := HT.out
        rw [List.take_length, HL.out, List.take_length] at h
        simp [h]
  · have l1 : (s.xs.length == t.xs.length) = false := by simp [hl]
    have l2 : (s.xs.length != t.xs.length) = true := by simp [hl]
    have l3 : ((s.xs.length : Int) == (t.xs.length : Int)) = false := by simp; omega
    have l4 : ((s.xs.length : Int) != (t.xs.length : Int)) = true := by simp; omega
    go_enter Tryz.func56, Tryz.ntmps56
    go_wp2
    go_ret
    refine ⟨ret_bool ?_, H⟩
    symm
    rw [beq_eq_false_iff_ne]
    intro h
    exact hl (by rw [h])
end Go.Proofs.YtaafnenmdombiaaGreat

/- Contracts of BareSteps, of the program and of the reference. No condition but that the arguments lie in memory. -/
namespace Go.Proofs.YtaafnenmdombiaaGreat
set_option linter.unusedSimpArgs false
set_option linter.unusedVariables false
open Go.RowKit
attribute [local go_sem ↓] Go.wp_at_zero Go.wp_at_succ
def stepsM (m : MB) : List Int → MB
  | [] => m
  | g :: l => stepsM (stepM m g) l
def toldM (m : MB) : List Int → List Bool
  | [] => []
  | g :: l => stepOkM m g :: toldM (stepM m g) l
theorem stepsM_snoc (m : MB) (l : List Int) (g : Int) : stepsM m (l ++ [g]) = stepM (stepsM m l) g := by
  induction l generalizing m with
  | nil => rfl
  | cons x l ih => exact ih (stepM m x)
theorem toldM_snoc (m : MB) (l : List Int) (g : Int) : toldM m (l ++ [g]) = toldM m l ++ [stepOkM (stepsM m l) g] := by
  induction l generalizing m with
  | nil => rfl
  | cons x l ih => show stepOkM m x :: toldM (stepM m x) (l ++ [g]) = _; rw [ih (stepM m x)]; rfl
theorem toldM_len (m : MB) (l : List Int) : (toldM m l).length = l.length := by
  induction l generalizing m with
  | nil => rfl
  | cons x l ih => show (toldM (stepM m x) l).length + 1 = _; rw [ih]; rfl
theorem take_snocS {l : List Int} {k : Nat} {y : Int} (h : l[k]? = some y) : l.take (k + 1) = l.take k ++ [y] := by rw [List.take_add_one, h]; rfl
theorem stepsM_size (m : MB) (l : List Int) : (stepsM m l).size ≤ m.size ∨ (stepsM m l).size ≤ 1000 := by
  induction l generalizing m with
  | nil => left; exact Nat.le_refl _
  | cons x l ih =>
    rcases ih (stepM m x) with h | h
    · rcases stepM_size m x with h2 | h2
      · left; exact Nat.le_trans h h2
      · right; exact Nat.le_trans h h2
    · right; exact h
theorem stepsS_big {d : BV} {m : MB} {l : List Int} (h : Hid (d.m = stepsM m l)) (Z : m.size ≤ 4194304) : BBig d := by
  unfold BBig; rw [h.out]; rcases stepsM_size m l with h | h <;> omega
set_option maxRecDepth 100000 in
set_option maxHeartbeats 4000000 in
theorem bareSteps_c (B : BV) (l : Sl Int) (W0 : World) (R : BRd W0 B) (Z : BBig B) (Rl : Rd icell 1 W0 l) (Zl : l.xs.length ≤ 1048576) : Calls Tryz.prog 54 #[B.val, .slice l.A l.xs.length l.c] W0 fun e w' => ∃ (d : BV) (t : Sl Bool), e = .returned (.tuple #[d.val, .slice t.A t.xs.length t.c]) ∧ d.m = stepsM B.m l.xs ∧ t.xs = toldM B.m l.xs ∧ Hp W0 w' [.bare d, .bools t] := by
  have H := Hp.start W0
  go_enter Tryz.func54, Tryz.ntmps54
  go_wp2_with (first
    | go_skip
    | ((with_reducible refine at_box ?_); first | (refine wpList_box_H (cs := (barr B).toList) rfl rfl H rfl CellsOf.agg ?_; clear H; intro bB w H) | (refine wpList_box_H rfl rfl H rfl (by constructor) ?_; clear H; intro b w H))
    | ((with_reducible refine at_alloc ?_); first | ((with_reducible refine at_dst 4 ?_); refine wpList_alloc_H rfl rfl H ?_; clear H; intro bR w H) | ((with_reducible refine at_dst 6 ?_); refine wpList_alloc_H rfl rfl H ?_; clear H; intro bO w H) | (refine wpList_alloc_H rfl rfl H ?_; clear H; intro b w H))
    | ((with_reducible refine at_load ?_); first | (refine wpList_load_H rfl rfl H rfl (by repeat constructor) ?_) | (refine wpList_loads_H rfl rfl H rfl (by repeat constructor) ?_))
    | ((with_reducible refine at_store ?_); first | (refine wpList_store_H rfl rfl H rfl rfl (by repeat constructor) ?_; clear H; intro w H))
    | ((with_reducible refine at_slice ?_); first | (refine wpList_nil_H (enc := bcel) rfl rfl H ?_; clear H; intro bt w H))
    | (go_at_call 113; refine (copyBare_c B _ (R.at_ H) Z).mono ?_; rintro e w ⟨d, rfl, x1, K⟩; have HD := Lib.hid x1; clear x1; replace H := H.add_all K; clear K))
  go_loopw [7, 17] (fun tv i wr => ∃ (k : Nat) (d : BV) (t : Sl Bool), k ≤ l.xs.length ∧ i = .int .i64 k ∧ tv = .slice t.A t.xs.length t.c ∧ Hid (d.m = stepsM B.m (l.xs.take k)) ∧ Hid (t.xs = toldM B.m (l.xs.take k)) ∧ Hp W0 wr [.bare d, .bools t, .box bO 28 (barr d).toList, .box bR 28 [.slice none 0 0, .slice none 0 0, .slice none 0 0, .int .i64 0]]) (fun _ i _ => l.xs.length - (intOf i).toNat)
  case atStart => exact ⟨0, d, ⟨some ⟨bt, 0, none⟩, 0, []⟩, by omega, rfl, rfl, Lib.hid (by rw [HD.out]; rfl), Lib.hid rfl, H.pick (.cons (by repeat constructor) (.cons (by repeat constructor) (.cons (by repeat constructor) (.cons (by repeat constructor) .nil))))⟩
  case round =>
    clear H HD
    obtain ⟨k, d, t, hk0, rfl, rfl, HD, HT, H⟩ := hrel
    have ZD := Lib.hid (stepsS_big HD Z)
    by_cases hk : k < l.xs.length
    · obtain ⟨y, hy0⟩ : ∃ y, l.xs[k]? = some y := ⟨_, List.getElem?_eq_getElem hk⟩
      have HY := Lib.hid hy0; clear hy0
      have HTL : Hid (t.xs.length = k) := by show _ = _; rw [HT.out, toldM_len, List.length_take]; omega
      go_wp2_with (first
        | go_skip
        | ((with_reducible refine at_box ?_); first | (refine wpList_box_H rfl rfl H rfl (by constructor) ?_; clear H; intro b w H))
        | ((with_reducible refine at_alloc ?_); first | ((with_reducible refine at_dst 10 ?_); refine wpList_alloc_H rfl rfl H ?_; clear H; intro bN w H) | (refine wpList_alloc_H rfl rfl H ?_; clear H; intro b w H))
        | ((with_reducible refine at_load ?_); first | (refine wpList_load_rd rfl rfl l (Rl.at_ H) rfl y HY.out rfl ?_) | (refine wpList_load_H rfl rfl H rfl (by repeat constructor) ?_) | (refine wpList_loads_H rfl rfl H rfl (by repeat constructor) ?_))
        | ((with_reducible refine at_store ?_); first | (refine wpList_store_H rfl rfl H rfl rfl (by repeat constructor) ?_; clear H; intro w H))
        | ((with_reducible refine at_index ?_); first | (refine wpList_index_n rfl rfl (k := k) l (Rl.at_ H) rfl rfl rfl hk ?_))
        | ((with_reducible refine at_slice ?_); first | (refine wpList_one_H rfl rfl H (stepOkM d.m y) rfl (by constructor) rfl (by decide) ?_; clear H; intro bl w H))
        | ((with_reducible refine at_append ?_); first | (refine wpList_append_H rfl rfl H t (⟨some ⟨bl, 0, none⟩, 1, [stepOkM d.m y]⟩ : Sl Bool) rfl rfl (by repeat constructor) (H.rd (by repeat constructor) bool_len) (by have := HTL.out; simp only [List.length_cons, List.length_nil]; omega) (by decide) ?_; clear H; intro t2 w HX H))
        | (go_at_call 24; refine (bareStep_c d y _ (H.brd (b := d) (by repeat constructor)) ZD.out).mono ?_; rintro e w ⟨d2, rfl, x1, K⟩; have HD2 := Lib.hid x1; clear x1; replace H := H.add_all K; clear K))
      go_roundw
      case rel => exact ⟨k + 1, d2, t2, by omega, by go_num, rfl, Lib.hid (by rw [HD2.out, take_snocS HY.out, stepsM_snoc, HD.out]), Lib.hid (by rw [HX.out, take_snocS HY.out, toldM_snoc, HT.out, HD.out]), H.pick (.cons (by repeat constructor) (.cons (by repeat constructor) (.cons (by repeat constructor) (.cons (by repeat constructor) .nil))))⟩
      case measure => simp [intOf]; omega
    · have hke : k = l.xs.length := by omega
      subst hke
      go_wp2_with (first
        | go_skip
        | ((with_reducible refine at_box ?_); first | (refine wpList_box_H rfl rfl H rfl (by constructor) ?_; clear H; intro b w H))
        | ((with_reducible refine at_alloc ?_); first | (refine wpList_alloc_H rfl rfl H ?_; clear H; intro b w H))
        | ((with_reducible refine at_load ?_); first | (refine wpList_load_H rfl rfl H rfl (by repeat constructor) ?_) | (refine wpList_loads_H rfl rfl H rfl (by repeat constructor) ?_))
        | ((with_reducible refine at_store ?_); first | (refine wpList_store_H rfl rfl H rfl rfl (by repeat constructor) ?_; clear H; intro w H)))
      refine bodyPost_ret (results_H2 rfl H rfl (by repeat constructor)) rfl ⟨d, t, rfl, by rw [HD.out, List.take_length], by rw [HT.out, List.take_length], H.pick (.cons (by repeat constructor) (.cons (by repeat constructor) .nil))⟩
set_option maxRecDepth 100000 in
set_option maxHeartbeats 4000000 in
theorem specBareSteps_c (B : BV) (l : Sl Int) (W0 : World) (R : BRd W0 B) (Z : BBig B) (Rl : Rd icell 1 W0 l) (Zl : l.xs.length ≤ 1048576) : Calls Tryz.prog 55 #[B.val, .slice l.A l.xs.length l.c] W0 fun e w' => ∃ (d : BV) (t : Sl Bool), e = .returned (.tuple #[d.val, .slice t.A t.xs.length t.c]) ∧ d.m = stepsM B.m l.xs ∧ t.xs = toldM B.m l.xs ∧ Hp W0 w' [.bare d, .bools t] := by
  have H := Hp.start W0
  go_enter Tryz.func55, Tryz.ntmps55
  go_wp2_with (first
    | go_skip
    | ((with_reducible refine at_box ?_); first | (refine wpList_box_H (cs := (barr B).toList) rfl rfl H rfl CellsOf.agg ?_; clear H; intro bB w H) | (refine wpList_box_H rfl rfl H rfl (by constructor) ?_; clear H; intro b w H))
    | ((with_reducible refine at_alloc ?_); first | ((with_reducible refine at_dst 4 ?_); refine wpList_alloc_H rfl rfl H ?_; clear H; intro bR w H) | (refine wpList_alloc_H rfl rfl H ?_; clear H; intro b w H))
    | ((with_reducible refine at_load ?_); first | (refine wpList_load_H rfl rfl H rfl (by repeat constructor) ?_) | (refine wpList_loads_H rfl rfl H rfl (by repeat constructor) ?_))
    | ((with_reducible refine at_store ?_); first | (refine wpList_store_H rfl rfl H rfl rfl (by repeat constructor) ?_; clear H; intro w H))
    | ((with_reducible refine at_slice ?_); first | (refine wpList_nil_H (enc := bcel) rfl rfl H ?_; clear H; intro bt w H))
    | (go_at_call 76; refine (l17Copy_c B _ (R.at_ H) Z).mono ?_; rintro e w ⟨d, rfl, x1, K⟩; have HD := Lib.hid x1; clear x1; replace H := H.add_all K; clear K))
  go_loopw [6, 7] (fun tv i wr => ∃ (k : Nat) (d : BV) (t : Sl Bool), k ≤ l.xs.length ∧ i = .int .i64 k ∧ tv = .slice t.A t.xs.length t.c ∧ Hid (d.m = stepsM B.m (l.xs.take k)) ∧ Hid (t.xs = toldM B.m (l.xs.take k)) ∧ Hp W0 wr [.bare d, .bools t, .box bB 28 (barr d).toList, .box bR 28 [.slice none 0 0, .slice none 0 0, .slice none 0 0, .int .i64 0]]) (fun _ i _ => l.xs.length - (intOf i).toNat)
  case atStart => exact ⟨0, d, ⟨some ⟨bt, 0, none⟩, 0, []⟩, by omega, rfl, rfl, Lib.hid (by rw [HD.out]; rfl), Lib.hid rfl, H.pick (.cons (by repeat constructor) (.cons (by repeat constructor) (.cons (by repeat constructor) (.cons (by repeat constructor) .nil))))⟩
  case round =>
    clear H HD
    obtain ⟨k, d, t, hk0, rfl, rfl, HD, HT, H⟩ := hrel
    have ZD := Lib.hid (stepsS_big HD Z)
    by_cases hk : k < l.xs.length
    · obtain ⟨y, hy0⟩ : ∃ y, l.xs[k]? = some y := ⟨_, List.getElem?_eq_getElem hk⟩
      have HY := Lib.hid hy0; clear hy0
      have HTL : Hid (t.xs.length = k) := by show _ = _; rw [HT.out, toldM_len, List.length_take]; omega
      go_wp2_with (first
        | go_skip
        | ((with_reducible refine at_box ?_); first | (refine wpList_box_H rfl rfl H rfl (by constructor) ?_; clear H; intro b w H))
        | ((with_reducible refine at_alloc ?_); first | (refine wpList_alloc_H rfl rfl H ?_; clear H; intro b w H))
        | ((with_reducible refine at_load ?_); first | (refine wpList_load_H rfl rfl H rfl (by repeat constructor) ?_) | (refine wpList_loads_H rfl rfl H rfl (by repeat constructor) ?_))
        | ((with_reducible refine at_store ?_); first | (refine wpList_store_H rfl rfl H rfl rfl (by repeat constructor) ?_; clear H; intro w H)))
      refine wp_cut (fun u a' w' => ∃ (d2 : BV), Hid (d2.m = stepM d.m y) ∧ Hp W0 w' [.bare d2, .bools t, .box bB 28 (barr d2).toList, .box bR 28 [.slice none 0 0, .slice none 0 0, .slice none 0 0, .int .i64 0]] ∧ a' = puts u [(19, d.val), (20, (.slice l.A l.xs.length l.c)), (21, (.int .i64 k)), (22, (.pointer (some ⟨ablk l.A, aoff l.A + k * 1, none⟩))), (23, (.int .i64 y)), (24, (.tuple #[d2.val, .bool (stepOkM d.m y)])), (18, (.tuple #[d2.val, .bool (stepOkM d.m y)])), (25, d2.val), (26, (.bool (stepOkM d.m y))), (8, (.bool (stepOkM d.m y)))]) ?_ ?_
      · refine wp_region_held (S := (fun w' => Rd icell 1 w' l)) (by kernel_rfl) ?_
        replace H := H.drew
        refine tkH (i := 1) rfl (.of rfl) (yields_val (v := (.slice l.A l.xs.length l.c)) rfl (fun _ => by go_simp)) (Rl.at_ H) ?_
        (try go_frame)
        refine tkH (i := 2) rfl (.of rfl) (yields_val (v := (.int .i64 k)) rfl (fun _ => by go_simp)) (Rl.at_ H) ?_
        (try go_frame)
        refine tkH (i := 3) rfl (.of rfl) (yields_index_nT rfl rfl (k := k) l (fun _ hS => hS) rfl rfl rfl hk) (Rl.at_ H) ?_
        (try go_frame)
        refine tkH (i := 4) rfl (.of rfl) (yields_load_rdT rfl rfl l (fun _ hS => hS) rfl y HY.out (by first | exact rfl | exact (Nat.add_zero _).symm) rfl) (Rl.at_ H) ?_
        (try go_frame)
        refine anyH_1 (i := 0) (by kernel_rfl) ?_
        refine wpOp_at rfl .here rfl ?_
        refine wp_loads_H rfl H rfl (by repeat constructor) ?_
        refine ⟨(Rl.at_ H), ?_⟩
        (try go_frame)
        refine anyH_1 (i := 5) (by kernel_rfl) ?_
        refine wpOp_at rfl (.of rfl) rfl ?_
        refine wp_call_H Tryz.f22 rfl rfl Tryz.func22 (by kernel_rfl) rfl rfl (made_H (val := fun q : BV => .tuple #[q.val, .bool (stepOkM d.m y)]) H (specBareStep_c d y _ (H.brd (b := d) (by repeat constructor)) ZD.out)) ?_
        clear H
        rintro _ w ⟨d2, rfl, HD2, H⟩
        refine ⟨(Rl.at_ H), ?_⟩
        (try go_frame)
        refine tkH (i := 6) rfl (.of rfl) (yields_val (v := (.tuple #[d2.val, .bool (stepOkM d.m y)])) rfl (fun _ => by go_simp)) (Rl.at_ H) ?_
        (try go_frame)
        refine tkH (i := 7) rfl (.of rfl) (yields_val (v := d2.val) rfl (fun _ => by go_simp)) (Rl.at_ H) ?_
        (try go_frame)
        refine tkH (i := 8) rfl (.of rfl) (yields_val (v := (.bool (stepOkM d.m y))) rfl (fun _ => by go_simp)) (Rl.at_ H) ?_
        (try go_frame)
        refine anyH_1 (i := 9) (by kernel_rfl) ?_
        refine wpOp_at rfl (.of rfl) rfl ?_
        refine wp_store_H rfl H rfl rfl (by repeat constructor) ?_
        clear H
        intro w H
        refine ⟨(Rl.at_ H), ?_⟩
        (try go_frame)
        refine tkH (i := 10) rfl (.of rfl) (yields_val (v := (.bool (stepOkM d.m y))) rfl (fun _ => by go_simp)) (Rl.at_ H) ?_
        (try go_frame)
        refine wpAnyH_done (by kernel_rfl) ?_ _
        exact ⟨rfl, d2, (by show _ = _; rw [HD2.out]), H.pick (.cons (by repeat constructor) (.cons (by repeat constructor) (.cons (by repeat constructor) (.cons (by repeat constructor) .nil)))), by first | (simp only [puts_cons, puts_nil, Act.put, List.setIfInBounds_toArray, List.set_cons_succ, List.set_cons_zero]; done) | (simp only [puts_cons, puts_nil, Act.put, List.setIfInBounds_toArray, List.set_cons_succ, List.set_cons_zero]; rfl)⟩
      clear H
      rintro u w ⟨d2, HD2, H, rfl⟩
      simp only [puts_cons, puts_nil, Act.put, List.setIfInBounds_toArray, List.set_cons_succ, List.set_cons_zero]
      go_wp2_with (first
        | go_skip
        | ((with_reducible refine at_box ?_); first | (refine wpList_box_H rfl rfl H rfl (by constructor) ?_; clear H; intro b w H))
        | ((with_reducible refine at_alloc ?_); first | (refine wpList_alloc_H rfl rfl H ?_; clear H; intro b w H))
        | ((with_reducible refine at_load ?_); first | (refine wpList_load_H rfl rfl H rfl (by repeat constructor) ?_) | (refine wpList_loads_H rfl rfl H rfl (by repeat constructor) ?_))
        | ((with_reducible refine at_store ?_); first | (refine wpList_store_H rfl rfl H rfl rfl (by repeat constructor) ?_; clear H; intro w H))
        | ((with_reducible refine at_slice ?_); first | (refine wpList_one_H rfl rfl H (stepOkM d.m y) rfl (by constructor) rfl (by decide) ?_; clear H; intro bl w H))
        | ((with_reducible refine at_append ?_); first | (refine wpList_append_H rfl rfl H t (⟨some ⟨bl, 0, none⟩, 1, [stepOkM d.m y]⟩ : Sl Bool) rfl rfl (by repeat constructor) (H.rd (by repeat constructor) bool_len) (by have := HTL.out; simp only [List.length_cons, List.length_nil]; omega) (by decide) ?_; clear H; intro t2 w HX H)))
      go_roundw
      case rel => exact ⟨k + 1, d2, t2, by omega, by go_num, rfl, Lib.hid (by rw [HD2.out, take_snocS HY.out, stepsM_snoc, HD.out]), Lib.hid (by rw [HX.out, take_snocS HY.out, toldM_snoc, HT.out, HD.out]), H.pick (.cons (by repeat constructor) (.cons (by repeat constructor) (.cons (by repeat constructor) (.cons (by repeat constructor) .nil))))⟩
      case measure => simp [intOf]; omega
    · have hke : k = l.xs.length := by omega
      subst hke
      go_wp2_with (first
        | go_skip
        | ((with_reducible refine at_box ?_); first | (refine wpList_box_H rfl rfl H rfl (by constructor) ?_; clear H; intro b w H))
        | ((with_reducible refine at_alloc ?_); first | (refine wpList_alloc_H rfl rfl H ?_; clear H; intro b w H))
        | ((with_reducible refine at_load ?_); first | (refine wpList_load_H rfl rfl H rfl (by repeat constructor) ?_) | (refine wpList_loads_H rfl rfl H rfl (by repeat constructor) ?_))
        | ((with_reducible refine at_store ?_); first | (refine wpList_store_H rfl rfl H rfl rfl (by repeat constructor) ?_; clear H; intro w H)))
      refine bodyPost_ret (results_H2 rfl H rfl (by repeat constructor)) rfl ⟨d, t, rfl, by rw [HD.out, List.take_length], by rw [HT.out, List.take_length], H.pick (.cons (by repeat constructor) (.cons (by repeat constructor) .nil))⟩
end Go.Proofs.YtaafnenmdombiaaGreat
