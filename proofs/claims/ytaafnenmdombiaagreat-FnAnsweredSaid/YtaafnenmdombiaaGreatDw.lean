/- Contracts of the reference's cursor of drawn bytes and of DrawPlaces. No condition but that the argument lies in memory. -/
import Derived.Maps.RangeWalk
import Derived.Test.YtaafnenmdombiaaGreatMn
import Derived.Test.YtaafnenmdombiaaGreatDl
namespace Go.Proofs.YtaafnenmdombiaaGreat
set_option linter.unusedSimpArgs false
set_option linter.unusedVariables false
open Go.RowKit
def u8cell (x : Int) : List Value := [.int .u8 x]
theorem u8_len (x : Int) : (u8cell x).length = 1 := rfl
theorem info_u8 : (Tryz.prog.info? 5).map (fun i => (i.zero, i.size, i.bytes)) = some (some (.int .u8 0), 1, 1) := by kernel_rfl
theorem eByte : EInfo Tryz.prog u8cell 1 1 5 22 :=
  ⟨Tryz.underlying22, by obtain ⟨i, h1, h2, h3, h4⟩ := info_parts info_u8; exact ⟨i, _, h1, h2, h3, h4, rfl⟩, by decide, u8_len, by intro x u hu; simp [u8cell] at hu; subst hu; rfl⟩
instance eiByte : EI Tryz.prog 22 u8cell 1 1 5 := ⟨eByte⟩
theorem and255 (a : Int) : 0 ≤ bits .and .i64 a 255 ∧ bits .and .i64 a 255 ≤ 255 := by
  have h : (BitVec.ofInt 64 a &&& BitVec.ofInt 64 255).toNat ≤ 255 := by
    rw [BitVec.toNat_and]; exact Nat.and_le_right
  obtain ⟨z, hz⟩ : ∃ z, z = (BitVec.ofInt 64 a &&& BitVec.ofInt 64 255).toNat := ⟨_, rfl⟩
  rw [← hz] at h
  show 0 ≤ IntKind.i64.wrap ((BitVec.ofInt 64 a &&& BitVec.ofInt 64 255).toNat : Int) ∧ IntKind.i64.wrap ((BitVec.ofInt 64 a &&& BitVec.ofInt 64 255).toNat : Int) ≤ 255
  rw [← hz]
  simp only [IntKind.wrap, IntKind.bits, IntKind.signed]
  constructor <;> (simp; omega)
section
variable {ops : Array Oper} {S : World → Prop} {o : Oper} {a : Act} {α : Type} {enc : α → List Value} {sz e : Nat} {P : Program}
theorem yields_index_nn (hw : Region.wanted o (yielded ops a.tmps) = true) {t : TypeId} {x ix : Operand} (ho : o.op = .indexAddr t x ix) {bytes : Nat} [hE : EI P t enc sz bytes e] (s : Sl α) (hR : ∀ w, S w → Rd enc sz w s) {k m : Nat} (hx : a.eval x = .slice s.A m s.c) (hi : a.eval ix = .int .i64 k)
    (hm : s.xs.length = m) (h1 : k < m) : YieldsIf P ops S o (.pointer (some ⟨ablk s.A, aoff s.A + k * sz, none⟩)) a := by
  subst hm
  refine .inl ⟨hw, fun w hS => ?_⟩
  obtain ⟨i, z, hi', hz, hsize, hby, hzs⟩ := hE.info.hi
  obtain ⟨hA, _⟩ := (hR w hS).addr (k := k) h1
  have hr : (Instr.indexAt t (.slice s.A s.xs.length s.c) (.int .i64 k)).run P w = .ok (.pointer (some ⟨ablk s.A, aoff s.A + k * sz, none⟩)) w := by
    rw [hA]
    simp [Instr.indexAt, asIntOf, run_underlying hE.info.ht, sizeOf, typeInfo, hi', hsize, h1, addj, ablk, aoff, go_sem]
  unfold execOp
  simp only [ho, hx, hi, Sem.run_bind, Sem.run_pure, Result.andThen_ok, hr]
theorem yields_load_rdd (hw : Region.wanted o (yielded ops a.tmps) = true) {ty : TypeId} {x : Operand} (ho : o.op = .load ty x) (s : Sl α) (hR : ∀ w, S w → Rd enc sz w s) {q : Nat} (hx : a.eval x = .pointer (some ⟨ablk s.A, q, none⟩)) [hT : TyS P ty] {k : Nat} (y : α) (hk : s.xs[k]? = some y) {j : Nat} (hq : q = aoff s.A + k * sz + j) {v : Value} (hv : (enc y)[j]? = some v) :
    YieldsIf P ops S o v a := by
  subst hq
  refine .inl ⟨hw, fun w hS => ?_⟩
  have hr : (Instr.loadAt ty (a.eval x)).run P w = .ok v w := by rw [hx]; exact run_load_rd (hR w hS) hT hk hv
  unfold execOp
  simp only [ho, Sem.run_bind, Sem.run_pure, Result.andThen_ok, hr]
end
@[go_sem] theorem run_build_cur (A : Option Addr) (n c : Nat) (h : Int) (w : World) : (Instr.build 131 #[(0, .slice A n c), (2, .int .i64 h)]).run Tryz.prog w = .ok (.agg #[.slice A n c, .int .i64 0, .int .i64 h]) w := by kernel_rfl
abbrev En.cur (b : Nat) (s : Sl Int) (k : Nat) (h : Int) : En := En.box b 131 [.slice s.A s.xs.length s.c, .int .i64 k, .int .i64 h]
theorem Hp.seal {w0 w : World} {x : En} {L : List En} (H : Hp w0 w (x :: L)) : Hp w0 w [x, .all L] :=
  H.equiv (by simp [En.all]) fun h _ y hy => by
    rcases List.mem_cons.1 hy with rfl | hy
    · exact h _ (by simp)
    · rw [List.mem_singleton] at hy; subst hy; exact fun e he => h e (by simp [he])
theorem Hp.unseal {w0 w : World} {x : En} {L : List En} (H : Hp w0 w [x, .all L]) : Hp w0 w (x :: L) :=
  H.equiv (by simp [En.all]) fun h _ y hy => by
    rcases List.mem_cons.1 hy with rfl | hy
    · exact h _ (by simp)
    · have h2 : (En.all L).ok w := h _ (by simp)
      exact h2 y hy
set_option maxRecDepth 100000 in
set_option maxHeartbeats 4000000 in
theorem big_c (s : Sl Int) (w : World) : Calls Tryz.prog 7 #[.slice s.A s.xs.length s.c] w fun e w' => e = .returned (.bool (decide (1048576 < s.xs.length))) ∧ Hp w w' [] := by
  have H := Hp.start w
  go_enter Tryz.func7, Tryz.ntmps7
  go_wp2
  go_ret
  exact ⟨by congr 2; simp; omega, H⟩
set_option maxRecDepth 100000 in
set_option maxHeartbeats 4000000 in
theorem l01New_c (s : Sl Int) (W0 : World) (R : Rd u8cell 1 W0 s) (Z : s.xs.length ≤ 1048576) : Calls Tryz.prog 65 #[.slice s.A s.xs.length s.c] W0 fun e w' => ∃ (b : Nat) (h : Int), e = .returned (.pointer (some ⟨b, 0, none⟩)) ∧ Hp W0 w' [.cur b s 0 h] := by
  have H := Hp.start W0
  have H := Hp.start W0
  go_enter Tryz.func65, Tryz.ntmps65
  go_wp2_with (first
    | go_skip
    | ((with_reducible refine at_box ?_); first | (refine wpList_box_H rfl rfl H rfl (by constructor) ?_; clear H; intro b w H))
    | ((with_reducible refine at_alloc ?_); first | (refine wpList_alloc_H rfl rfl H ?_; clear H; intro b w H))
    | ((with_reducible refine at_load ?_); first | (refine wpList_load_H rfl rfl H rfl (by repeat constructor) ?_) | (refine wpList_loads_H rfl rfl H rfl (by repeat constructor) ?_))
    | ((with_reducible refine at_store ?_); first | (refine wpList_store_H rfl rfl H rfl rfl (by repeat constructor) ?_; clear H; intro w H)))
  go_loopw [3, 4] (fun hv i wr => ∃ (k : Nat) (h : Int), k ≤ s.xs.length ∧ k ≤ 4000 ∧ i = .int .i64 k ∧ hv = .int .i64 h ∧ Hp W0 wr []) (fun _ i _ => 4000 - (intOf i).toNat)
  case atStart => exact ⟨0, _, by omega, by omega, rfl, rfl, H⟩
  case round =>
    clear H
    obtain ⟨k, h, hk0, hk4, rfl, rfl, H⟩ := hrel
    by_cases hk : k < s.xs.length
    · obtain ⟨y, hy0⟩ : ∃ y, s.xs[k]? = some y := ⟨_, List.getElem?_eq_getElem hk⟩
      have HY := Lib.hid hy0; clear hy0
      by_cases h4 : k < 4000
      · skip
        go_wp2_with (first
          | go_skip
          | ((with_reducible refine at_box ?_); first | (refine wpList_box_H rfl rfl H rfl (by constructor) ?_; clear H; intro b w H))
          | ((with_reducible refine at_alloc ?_); first | (refine wpList_alloc_H rfl rfl H ?_; clear H; intro b w H))
          | ((with_reducible refine at_load ?_); first | (refine wpList_load_rd rfl rfl s (R.at_ H) rfl y HY.out rfl ?_) | (refine wpList_load_H rfl rfl H rfl (by repeat constructor) ?_) | (refine wpList_loads_H rfl rfl H rfl (by repeat constructor) ?_))
          | ((with_reducible refine at_store ?_); first | (refine wpList_store_H rfl rfl H rfl rfl (by repeat constructor) ?_; clear H; intro w H))
          | ((with_reducible refine at_index ?_); first | (refine wpList_index_n rfl rfl s (R.at_ H) rfl rfl rfl hk ?_)))
        go_roundw
        case rel => exact ⟨k + 1, _, by omega, by omega, by go_num, rfl, H⟩
        case measure => simp [intOf]; omega
      · have h5 : 4000 ≤ k := by omega
        go_wp2_with (first
          | go_skip
          | ((with_reducible refine at_box ?_); first | (refine wpList_box_H rfl rfl H rfl (by constructor) ?_; clear H; intro bC w H))
          | ((with_reducible refine at_alloc ?_); first | (refine wpList_alloc_H rfl rfl H ?_; clear H; intro b w H))
          | ((with_reducible refine at_load ?_); first | (refine wpList_load_H rfl rfl H rfl (by repeat constructor) ?_) | (refine wpList_loads_H rfl rfl H rfl (by repeat constructor) ?_))
          | ((with_reducible refine at_store ?_); first | (refine wpList_store_H rfl rfl H rfl rfl (by repeat constructor) ?_; clear H; intro w H)))
        go_ret
        exact ⟨bC, _, rfl, H.pick (.cons .head .nil)⟩
    · have h5 : s.xs.length ≤ k := by omega
      go_wp2_with (first
        | go_skip
        | ((with_reducible refine at_box ?_); first | (refine wpList_box_H rfl rfl H rfl (by constructor) ?_; clear H; intro bC w H))
        | ((with_reducible refine at_alloc ?_); first | (refine wpList_alloc_H rfl rfl H ?_; clear H; intro b w H))
        | ((with_reducible refine at_load ?_); first | (refine wpList_load_H rfl rfl H rfl (by repeat constructor) ?_) | (refine wpList_loads_H rfl rfl H rfl (by repeat constructor) ?_))
        | ((with_reducible refine at_store ?_); first | (refine wpList_store_H rfl rfl H rfl rfl (by repeat constructor) ?_; clear H; intro w H)))
      go_ret
      exact ⟨bC, _, rfl, H.pick (.cons .head .nil)⟩
set_option maxRecDepth 100000 in
set_option maxHeartbeats 4000000 in
theorem l01Byte_H (s : Sl Int) (b k : Nat) (h : Int) {W0 w : World} {L L1 : List En} (H : Hp W0 w L) (t : Take L (.cur b s k h) L1) (R : Rd u8cell 1 W0 s) (Z : s.xs.length ≤ 1048576) (hkn : k ≤ s.xs.length) : Calls Tryz.prog 174 #[.pointer (some ⟨b, 0, none⟩)] w fun e w' => ∃ (v : Int) (k' : Nat) (h' : Int), e = .returned (.int .i64 v) ∧ 0 ≤ v ∧ v ≤ 255 ∧ k' ≤ s.xs.length ∧ Hp W0 w' (.cur b s k' h' :: L1) := by
  replace H := (H.take t).seal
  clear t
  go_enter Tryz.func174, Tryz.ntmps174
  go_wp2_with (first
    | go_skip
    | ((with_reducible refine at_box ?_); first | (refine wpList_box_H rfl rfl H rfl (by constructor) ?_; clear H; intro b w H))
    | ((with_reducible refine at_alloc ?_); first | (refine wpList_alloc_H rfl rfl H ?_; clear H; intro b w H))
    | ((with_reducible refine at_load ?_); first | (refine wpList_load_H rfl rfl H rfl (by repeat constructor) ?_) | (refine wpList_loads_H rfl rfl H rfl (by repeat constructor) ?_))
    | ((with_reducible refine at_store ?_); first | (refine wpList_store_H rfl rfl H rfl rfl (by repeat constructor) ?_; clear H; intro w H)))
  obtain ⟨h1, hh1⟩ : ∃ h1 : Int, h1 = wrap64 (wrap64 (h * 6364136223846793005) + 1442695040888963407) := ⟨_, rfl⟩
  rw [← hh1] at H ⊢
  clear hh1
  refine wp_cut (fun u a' w' => ∃ (_ : Unit), Hp W0 w' [En.cur b s k h1, .all L1] ∧ a' = puts u [(13, (.pointer (some ⟨b, 0, none⟩))), (14, (.pointer (some ⟨b, 0, none⟩))), (15, .pointer (some ⟨b, 2, none⟩)), (16, (.int .i64 h1)), (17, (.int .i64 (h1 / 8589934592))), (18, (.pointer (some ⟨b, 0, none⟩))), (19, (.pointer (some ⟨b, 0, none⟩))), (20, .pointer (some ⟨b, 2, none⟩)), (21, (.int .i64 h1)), (22, (.int .i64 (h1 / 35184372088832))), (23, (.int .i64 (bits .xor .i64 (h1 / 8589934592) (h1 / 35184372088832)))), (24, (.int .i64 (bits .and .i64 (bits .xor .i64 (h1 / 8589934592) (h1 / 35184372088832)) 255))), (3, (.int .i64 (bits .and .i64 (bits .xor .i64 (h1 / 8589934592) (h1 / 35184372088832)) 255)))]) ?_ ?_
  · refine wp_region_held (S := (fun w' => Rw w' b 131 ([.slice s.A s.xs.length s.c, .int .i64 k, .int .i64 h1] : List Value).toArray ∧ Rd u8cell 1 w' s)) (by kernel_rfl) ?_
    replace H := H.drew
    refine tkH (i := 0) rfl .here (yields_val (v := (.pointer (some ⟨b, 0, none⟩))) rfl (fun _ => by go_simp)) ⟨H.rw_ (by repeat constructor), R.at_ H⟩ ?_
    (try go_frame)
    refine tkH (i := 1) rfl (.of rfl) (yields_val (v := (.pointer (some ⟨b, 0, none⟩))) rfl (fun _ => by go_simp)) ⟨H.rw_ (by repeat constructor), R.at_ H⟩ ?_
    (try go_frame)
    refine tkH (i := 2) rfl (.of rfl) (yields_val (v := .pointer (some ⟨b, 2, none⟩)) rfl (fun _ => by go_simp)) ⟨H.rw_ (by repeat constructor), R.at_ H⟩ ?_
    (try go_frame)
    refine tkH (i := 3) rfl (.of rfl) (yields_load1_R rfl rfl rfl (fun _ hS => hS.1) rfl) ⟨H.rw_ (by repeat constructor), R.at_ H⟩ ?_
    (try go_frame)
    refine tkH (i := 4) rfl (.of rfl) (yields_val (v := (.int .i64 (h1 / 8589934592))) rfl (fun _ => by go_simp)) ⟨H.rw_ (by repeat constructor), R.at_ H⟩ ?_
    (try go_frame)
    refine tkH (i := 5) rfl (.of rfl) (yields_val (v := (.pointer (some ⟨b, 0, none⟩))) rfl (fun _ => by go_simp)) ⟨H.rw_ (by repeat constructor), R.at_ H⟩ ?_
    (try go_frame)
    refine tkH (i := 6) rfl (.of rfl) (yields_val (v := (.pointer (some ⟨b, 0, none⟩))) rfl (fun _ => by go_simp)) ⟨H.rw_ (by repeat constructor), R.at_ H⟩ ?_
    (try go_frame)
    refine tkH (i := 7) rfl (.of rfl) (yields_val (v := .pointer (some ⟨b, 2, none⟩)) rfl (fun _ => by go_simp)) ⟨H.rw_ (by repeat constructor), R.at_ H⟩ ?_
    (try go_frame)
    refine tkH (i := 8) rfl (.of rfl) (yields_load1_R rfl rfl rfl (fun _ hS => hS.1) rfl) ⟨H.rw_ (by repeat constructor), R.at_ H⟩ ?_
    (try go_frame)
    refine tkH (i := 9) rfl (.of rfl) (yields_val (v := (.int .i64 (h1 / 35184372088832))) rfl (fun _ => by go_simp)) ⟨H.rw_ (by repeat constructor), R.at_ H⟩ ?_
    (try go_frame)
    refine tkH (i := 10) rfl (.of rfl) (yields_val (v := (.int .i64 (bits .xor .i64 (h1 / 8589934592) (h1 / 35184372088832)))) rfl (fun _ => by go_simp)) ⟨H.rw_ (by repeat constructor), R.at_ H⟩ ?_
    (try go_frame)
    refine tkH (i := 11) rfl (.of rfl) (yields_val (v := (.int .i64 (bits .and .i64 (bits .xor .i64 (h1 / 8589934592) (h1 / 35184372088832)) 255))) rfl (fun _ => by go_simp)) ⟨H.rw_ (by repeat constructor), R.at_ H⟩ ?_
    (try go_frame)
    refine tkH (i := 12) rfl (.of rfl) (yields_val (v := (.int .i64 (bits .and .i64 (bits .xor .i64 (h1 / 8589934592) (h1 / 35184372088832)) 255))) rfl (fun _ => by go_simp)) ⟨H.rw_ (by repeat constructor), R.at_ H⟩ ?_
    (try go_frame)
    refine wpAnyH_done (by kernel_rfl) ?_ _
    exact ⟨rfl, (), H.pick (.cons (by repeat constructor) (.cons (by repeat constructor) .nil)), by first | (simp only [puts_cons, puts_nil, Act.put, List.setIfInBounds_toArray, List.set_cons_succ, List.set_cons_zero]; done) | (simp only [puts_cons, puts_nil, Act.put, List.setIfInBounds_toArray, List.set_cons_succ, List.set_cons_zero]; rfl)⟩
  clear H
  rintro u w ⟨_, H, rfl⟩
  simp only [puts_cons, puts_nil, Act.put, List.setIfInBounds_toArray, List.set_cons_succ, List.set_cons_zero]
  obtain ⟨x1, hx1⟩ : ∃ x1 : Int, x1 = (bits .and .i64 (bits .xor .i64 (h1 / 8589934592) (h1 / 35184372088832)) 255) := ⟨_, rfl⟩
  have hb := and255 (bits .xor .i64 (h1 / 8589934592) (h1 / 35184372088832))
  rw [← hx1] at hb ⊢
  clear hx1
  by_cases hk : k < s.xs.length
  · obtain ⟨y, hy0⟩ : ∃ y, s.xs[k]? = some y := ⟨_, List.getElem?_eq_getElem hk⟩
    have HY := Lib.hid hy0; clear hy0
    go_wp2
    refine wp_cut (fun u a' w' => ∃ (_ : Unit), Hp W0 w' [En.cur b s k h1, .all L1] ∧ a' = puts u [(25, (.pointer (some ⟨b, 0, none⟩))), (26, (.pointer (some ⟨b, 0, none⟩))), (27, .pointer (some ⟨b, 1, none⟩)), (28, (.int .i64 k)), (29, (.pointer (some ⟨b, 0, none⟩))), (30, (.pointer (some ⟨b, 0, none⟩))), (31, .pointer (some ⟨b, 0, none⟩)), (32, (.slice s.A s.xs.length s.c)), (33, (.int .i64 (s.xs.length : Int))), (34, (.bool true))]) ?_ ?_
    · refine wp_region_held (S := (fun w' => Rw w' b 131 ([.slice s.A s.xs.length s.c, .int .i64 k, .int .i64 h1] : List Value).toArray ∧ Rd u8cell 1 w' s)) (by kernel_rfl) ?_
      replace H := H.drew
      refine tkH (i := 0) rfl .here (yields_val (v := (.pointer (some ⟨b, 0, none⟩))) rfl (fun _ => by go_simp)) ⟨H.rw_ (by repeat constructor), R.at_ H⟩ ?_
      (try go_frame)
      refine tkH (i := 1) rfl (.of rfl) (yields_val (v := (.pointer (some ⟨b, 0, none⟩))) rfl (fun _ => by go_simp)) ⟨H.rw_ (by repeat constructor), R.at_ H⟩ ?_
      (try go_frame)
      refine tkH (i := 2) rfl (.of rfl) (yields_val (v := .pointer (some ⟨b, 1, none⟩)) rfl (fun _ => by go_simp)) ⟨H.rw_ (by repeat constructor), R.at_ H⟩ ?_
      (try go_frame)
      refine tkH (i := 3) rfl (.of rfl) (yields_load1_R rfl rfl rfl (fun _ hS => hS.1) rfl) ⟨H.rw_ (by repeat constructor), R.at_ H⟩ ?_
      (try go_frame)
      refine tkH (i := 4) rfl (.of rfl) (yields_val (v := (.pointer (some ⟨b, 0, none⟩))) rfl (fun _ => by go_simp)) ⟨H.rw_ (by repeat constructor), R.at_ H⟩ ?_
      (try go_frame)
      refine tkH (i := 5) rfl (.of rfl) (yields_val (v := (.pointer (some ⟨b, 0, none⟩))) rfl (fun _ => by go_simp)) ⟨H.rw_ (by repeat constructor), R.at_ H⟩ ?_
      (try go_frame)
      refine tkH (i := 6) rfl (.of rfl) (yields_val (v := .pointer (some ⟨b, 0, none⟩)) rfl (fun _ => by go_simp)) ⟨H.rw_ (by repeat constructor), R.at_ H⟩ ?_
      (try go_frame)
      refine tkH (i := 7) rfl (.of rfl) (yields_load1_R rfl rfl rfl (fun _ hS => hS.1) rfl) ⟨H.rw_ (by repeat constructor), R.at_ H⟩ ?_
      (try go_frame)
      refine tkH (i := 8) rfl (.of rfl) (yields_val (v := (.int .i64 (s.xs.length : Int))) rfl (fun _ => by go_simp)) ⟨H.rw_ (by repeat constructor), R.at_ H⟩ ?_
      (try go_frame)
      refine tkH (i := 9) rfl (.of rfl) (yields_val (v := (.bool true)) rfl (fun _ => by (first | (go_simp; done) | (go_simp; rw [(decide_eq_true (by omega : (k : Int) < (s.xs.length : Int)))]) | (rw [← (decide_eq_true (by omega : (k : Int) < (s.xs.length : Int)))]; go_simp) | (go_simp; omega)))) ⟨H.rw_ (by repeat constructor), R.at_ H⟩ ?_
      (try go_frame)
      refine wpAnyH_done (by kernel_rfl) ?_ _
      exact ⟨rfl, (), H.pick (.cons (by repeat constructor) (.cons (by repeat constructor) .nil)), by first | (simp only [puts_cons, puts_nil, Act.put, List.setIfInBounds_toArray, List.set_cons_succ, List.set_cons_zero]; done) | (simp only [puts_cons, puts_nil, Act.put, List.setIfInBounds_toArray, List.set_cons_succ, List.set_cons_zero]; rfl)⟩
    clear H
    rintro u w ⟨_, H, rfl⟩
    simp only [puts_cons, puts_nil, Act.put, List.setIfInBounds_toArray, List.set_cons_succ, List.set_cons_zero]
    go_wp2
    refine wp_cut (fun u a' w' => ∃ (_ : Unit), Hp W0 w' [En.cur b s k h1, .all L1] ∧ a' = puts u [(35, (.int .i64 x1)), (36, (.pointer (some ⟨b, 0, none⟩))), (37, (.pointer (some ⟨b, 0, none⟩))), (38, .pointer (some ⟨b, 0, none⟩)), (39, (.slice s.A s.xs.length s.c)), (40, (.pointer (some ⟨b, 0, none⟩))), (41, (.pointer (some ⟨b, 0, none⟩))), (42, .pointer (some ⟨b, 1, none⟩)), (43, (.int .i64 k)), (44, (.pointer (some ⟨ablk s.A, aoff s.A + k * 1, none⟩))), (45, (.int .u8 y)), (46, (.int .i64 (IntKind.i64.wrap y))), (47, (.int .i64 (IntKind.i64.wrap (x1 + (IntKind.i64.wrap y))))), (48, (.int .i64 (bits .and .i64 (IntKind.i64.wrap (x1 + (IntKind.i64.wrap y))) 255))), (3, (.int .i64 (bits .and .i64 (IntKind.i64.wrap (x1 + (IntKind.i64.wrap y))) 255)))]) ?_ ?_
    · refine wp_region_held (S := (fun w' => Rw w' b 131 ([.slice s.A s.xs.length s.c, .int .i64 k, .int .i64 h1] : List Value).toArray ∧ Rd u8cell 1 w' s)) (by kernel_rfl) ?_
      replace H := H.drew
      refine tkH (i := 0) rfl .here (yields_val (v := (.int .i64 x1)) rfl (fun _ => by go_simp)) ⟨H.rw_ (by repeat constructor), R.at_ H⟩ ?_
      (try go_frame)
      refine tkH (i := 1) rfl (.of rfl) (yields_val (v := (.pointer (some ⟨b, 0, none⟩))) rfl (fun _ => by go_simp)) ⟨H.rw_ (by repeat constructor), R.at_ H⟩ ?_
      (try go_frame)
      refine tkH (i := 2) rfl (.of rfl) (yields_val (v := (.pointer (some ⟨b, 0, none⟩))) rfl (fun _ => by go_simp)) ⟨H.rw_ (by repeat constructor), R.at_ H⟩ ?_
      (try go_frame)
      refine tkH (i := 3) rfl (.of rfl) (yields_val (v := .pointer (some ⟨b, 0, none⟩)) rfl (fun _ => by go_simp)) ⟨H.rw_ (by repeat constructor), R.at_ H⟩ ?_
      (try go_frame)
      refine tkH (i := 4) rfl (.of rfl) (yields_load1_R rfl rfl rfl (fun _ hS => hS.1) rfl) ⟨H.rw_ (by repeat constructor), R.at_ H⟩ ?_
      (try go_frame)
      refine tkH (i := 5) rfl (.of rfl) (yields_val (v := (.pointer (some ⟨b, 0, none⟩))) rfl (fun _ => by go_simp)) ⟨H.rw_ (by repeat constructor), R.at_ H⟩ ?_
      (try go_frame)
      refine tkH (i := 6) rfl (.of rfl) (yields_val (v := (.pointer (some ⟨b, 0, none⟩))) rfl (fun _ => by go_simp)) ⟨H.rw_ (by repeat constructor), R.at_ H⟩ ?_
      (try go_frame)
      refine tkH (i := 7) rfl (.of rfl) (yields_val (v := .pointer (some ⟨b, 1, none⟩)) rfl (fun _ => by go_simp)) ⟨H.rw_ (by repeat constructor), R.at_ H⟩ ?_
      (try go_frame)
      refine tkH (i := 8) rfl (.of rfl) (yields_load1_R rfl rfl rfl (fun _ hS => hS.1) rfl) ⟨H.rw_ (by repeat constructor), R.at_ H⟩ ?_
      (try go_frame)
      refine tkH (i := 9) rfl (.of rfl) (yields_index_nn rfl rfl s (fun _ hS => hS.2) rfl rfl rfl hk) ⟨H.rw_ (by repeat constructor), R.at_ H⟩ ?_
      (try go_frame)
      refine tkH (i := 10) rfl (.of rfl) (yields_load_rdd rfl rfl s (fun _ hS => hS.2) rfl y HY.out (by first | exact rfl | exact (Nat.add_zero _).symm) rfl) ⟨H.rw_ (by repeat constructor), R.at_ H⟩ ?_
      (try go_frame)
      refine tkH (i := 11) rfl (.of rfl) (yields_val (v := (.int .i64 (IntKind.i64.wrap y))) rfl (fun _ => by go_simp)) ⟨H.rw_ (by repeat constructor), R.at_ H⟩ ?_
      (try go_frame)
      refine tkH (i := 12) rfl (.of rfl) (yields_val (v := (.int .i64 (IntKind.i64.wrap (x1 + (IntKind.i64.wrap y))))) rfl (fun _ => by go_simp)) ⟨H.rw_ (by repeat constructor), R.at_ H⟩ ?_
      (try go_frame)
      refine tkH (i := 13) rfl (.of rfl) (yields_val (v := (.int .i64 (bits .and .i64 (IntKind.i64.wrap (x1 + (IntKind.i64.wrap y))) 255))) rfl (fun _ => by go_simp)) ⟨H.rw_ (by repeat constructor), R.at_ H⟩ ?_
      (try go_frame)
      refine tkH (i := 14) rfl (.of rfl) (yields_val (v := (.int .i64 (bits .and .i64 (IntKind.i64.wrap (x1 + (IntKind.i64.wrap y))) 255))) rfl (fun _ => by go_simp)) ⟨H.rw_ (by repeat constructor), R.at_ H⟩ ?_
      (try go_frame)
      refine wpAnyH_done (by kernel_rfl) ?_ _
      exact ⟨rfl, (), H.pick (.cons (by repeat constructor) (.cons (by repeat constructor) .nil)), by first | (simp only [puts_cons, puts_nil, Act.put, List.setIfInBounds_toArray, List.set_cons_succ, List.set_cons_zero]; done) | (simp only [puts_cons, puts_nil, Act.put, List.setIfInBounds_toArray, List.set_cons_succ, List.set_cons_zero]; rfl)⟩
    clear H
    rintro u w ⟨_, H, rfl⟩
    simp only [puts_cons, puts_nil, Act.put, List.setIfInBounds_toArray, List.set_cons_succ, List.set_cons_zero]
    obtain ⟨x2, hx2⟩ : ∃ x2 : Int, x2 = (bits .and .i64 (IntKind.i64.wrap (x1 + (IntKind.i64.wrap y))) 255) := ⟨_, rfl⟩
    have hb2 := and255 (IntKind.i64.wrap (x1 + (IntKind.i64.wrap y)))
    rw [← hx2] at hb2 ⊢
    clear hx2
    go_wp2_with (first
      | go_skip
      | ((with_reducible refine at_box ?_); first | (refine wpList_box_H rfl rfl H rfl (by constructor) ?_; clear H; intro b w H))
      | ((with_reducible refine at_alloc ?_); first | (refine wpList_alloc_H rfl rfl H ?_; clear H; intro b w H))
      | ((with_reducible refine at_load ?_); first | (refine wpList_load_H rfl rfl H rfl (by repeat constructor) ?_) | (refine wpList_loads_H rfl rfl H rfl (by repeat constructor) ?_))
      | ((with_reducible refine at_store ?_); first | (refine wpList_store_H rfl rfl H rfl rfl (by repeat constructor) ?_; clear H; intro w H)))
    go_ret
    exact ⟨x2, k + 1, h1, rfl, hb2.1, hb2.2, by omega, H.unseal⟩
  · go_wp2
    refine wp_cut (fun u a' w' => ∃ (_ : Unit), Hp W0 w' [En.cur b s k h1, .all L1] ∧ a' = puts u [(25, (.pointer (some ⟨b, 0, none⟩))), (26, (.pointer (some ⟨b, 0, none⟩))), (27, .pointer (some ⟨b, 1, none⟩)), (28, (.int .i64 k)), (29, (.pointer (some ⟨b, 0, none⟩))), (30, (.pointer (some ⟨b, 0, none⟩))), (31, .pointer (some ⟨b, 0, none⟩)), (32, (.slice s.A s.xs.length s.c)), (33, (.int .i64 (s.xs.length : Int))), (34, (.bool false))]) ?_ ?_
    · refine wp_region_held (S := (fun w' => Rw w' b 131 ([.slice s.A s.xs.length s.c, .int .i64 k, .int .i64 h1] : List Value).toArray ∧ Rd u8cell 1 w' s)) (by kernel_rfl) ?_
      replace H := H.drew
      refine tkH (i := 0) rfl .here (yields_val (v := (.pointer (some ⟨b, 0, none⟩))) rfl (fun _ => by go_simp)) ⟨H.rw_ (by repeat constructor), R.at_ H⟩ ?_
      (try go_frame)
      refine tkH (i := 1) rfl (.of rfl) (yields_val (v := (.pointer (some ⟨b, 0, none⟩))) rfl (fun _ => by go_simp)) ⟨H.rw_ (by repeat constructor), R.at_ H⟩ ?_
      (try go_frame)
      refine tkH (i := 2) rfl (.of rfl) (yields_val (v := .pointer (some ⟨b, 1, none⟩)) rfl (fun _ => by go_simp)) ⟨H.rw_ (by repeat constructor), R.at_ H⟩ ?_
      (try go_frame)
      refine tkH (i := 3) rfl (.of rfl) (yields_load1_R rfl rfl rfl (fun _ hS => hS.1) rfl) ⟨H.rw_ (by repeat constructor), R.at_ H⟩ ?_
      (try go_frame)
      refine tkH (i := 4) rfl (.of rfl) (yields_val (v := (.pointer (some ⟨b, 0, none⟩))) rfl (fun _ => by go_simp)) ⟨H.rw_ (by repeat constructor), R.at_ H⟩ ?_
      (try go_frame)
      refine tkH (i := 5) rfl (.of rfl) (yields_val (v := (.pointer (some ⟨b, 0, none⟩))) rfl (fun _ => by go_simp)) ⟨H.rw_ (by repeat constructor), R.at_ H⟩ ?_
      (try go_frame)
      refine tkH (i := 6) rfl (.of rfl) (yields_val (v := .pointer (some ⟨b, 0, none⟩)) rfl (fun _ => by go_simp)) ⟨H.rw_ (by repeat constructor), R.at_ H⟩ ?_
      (try go_frame)
      refine tkH (i := 7) rfl (.of rfl) (yields_load1_R rfl rfl rfl (fun _ hS => hS.1) rfl) ⟨H.rw_ (by repeat constructor), R.at_ H⟩ ?_
      (try go_frame)
      refine tkH (i := 8) rfl (.of rfl) (yields_val (v := (.int .i64 (s.xs.length : Int))) rfl (fun _ => by go_simp)) ⟨H.rw_ (by repeat constructor), R.at_ H⟩ ?_
      (try go_frame)
      refine tkH (i := 9) rfl (.of rfl) (yields_val (v := (.bool false)) rfl (fun _ => by (first | (go_simp; done) | (go_simp; rw [(decide_eq_false (by omega : ¬ (k : Int) < (s.xs.length : Int)))]) | (rw [← (decide_eq_false (by omega : ¬ (k : Int) < (s.xs.length : Int)))]; go_simp) | (go_simp; omega)))) ⟨H.rw_ (by repeat constructor), R.at_ H⟩ ?_
      (try go_frame)
      refine wpAnyH_done (by kernel_rfl) ?_ _
      exact ⟨rfl, (), H.pick (.cons (by repeat constructor) (.cons (by repeat constructor) .nil)), by first | (simp only [puts_cons, puts_nil, Act.put, List.setIfInBounds_toArray, List.set_cons_succ, List.set_cons_zero]; done) | (simp only [puts_cons, puts_nil, Act.put, List.setIfInBounds_toArray, List.set_cons_succ, List.set_cons_zero]; rfl)⟩
    clear H
    rintro u w ⟨_, H, rfl⟩
    simp only [puts_cons, puts_nil, Act.put, List.setIfInBounds_toArray, List.set_cons_succ, List.set_cons_zero]
    go_wp2_with (first
      | go_skip
      | ((with_reducible refine at_box ?_); first | (refine wpList_box_H rfl rfl H rfl (by constructor) ?_; clear H; intro b w H))
      | ((with_reducible refine at_alloc ?_); first | (refine wpList_alloc_H rfl rfl H ?_; clear H; intro b w H))
      | ((with_reducible refine at_load ?_); first | (refine wpList_load_H rfl rfl H rfl (by repeat constructor) ?_) | (refine wpList_loads_H rfl rfl H rfl (by repeat constructor) ?_))
      | ((with_reducible refine at_store ?_); first | (refine wpList_store_H rfl rfl H rfl rfl (by repeat constructor) ?_; clear H; intro w H)))
    go_ret
    exact ⟨x1, k, h1, rfl, hb.1, hb.2, hkn, H.unseal⟩
set_option maxRecDepth 100000 in
set_option maxHeartbeats 4000000 in
theorem l01Below4_H (s : Sl Int) (b k0 : Nat) (h0 : Int) {W0 w : World} {L L1 : List En} (H : Hp W0 w L) (t : Take L (.cur b s k0 h0) L1) (R : Rd u8cell 1 W0 s) (Z : s.xs.length ≤ 1048576) (c0 : k0 ≤ s.xs.length) : Calls Tryz.prog 94 #[.pointer (some ⟨b, 0, none⟩), .int .i64 10000] w fun e w' => ∃ (v : Int) (k' : Nat) (h' : Int), e = .returned (.int .i64 v) ∧ 0 ≤ v ∧ v ≤ 9999 ∧ k' ≤ s.xs.length ∧ Hp W0 w' (.cur b s k' h' :: L1) := by
  replace H := H.take t
  clear t
  go_enter Tryz.func94, Tryz.ntmps94
  go_wp2_with (first
    | go_skip
    | ((with_reducible refine at_box ?_); first | (refine wpList_box_H rfl rfl H rfl (by constructor) ?_; clear H; intro b w H))
    | ((with_reducible refine at_alloc ?_); first | (refine wpList_alloc_H rfl rfl H ?_; clear H; intro b w H))
    | ((with_reducible refine at_load ?_); first | (refine wpList_load_H rfl rfl H rfl (by repeat constructor) ?_) | (refine wpList_loads_H rfl rfl H rfl (by repeat constructor) ?_))
    | ((with_reducible refine at_store ?_); first | (refine wpList_store_H rfl rfl H rfl rfl (by repeat constructor) ?_; clear H; intro w H)))
  go_at_call 174
  refine (l01Byte_H s b k0 h0 H .head R Z c0).mono ?_
  clear H
  rintro e w ⟨v1, k1, h1, rfl, a1, b1, c1, H⟩
  go_wp2_with (first
    | go_skip
    | ((with_reducible refine at_box ?_); first | (refine wpList_box_H rfl rfl H rfl (by constructor) ?_; clear H; intro b w H))
    | ((with_reducible refine at_alloc ?_); first | (refine wpList_alloc_H rfl rfl H ?_; clear H; intro b w H))
    | ((with_reducible refine at_load ?_); first | (refine wpList_load_H rfl rfl H rfl (by repeat constructor) ?_) | (refine wpList_loads_H rfl rfl H rfl (by repeat constructor) ?_))
    | ((with_reducible refine at_store ?_); first | (refine wpList_store_H rfl rfl H rfl rfl (by repeat constructor) ?_; clear H; intro w H)))
  go_at_call 174
  refine (l01Byte_H s b k1 h1 H .head R Z c1).mono ?_
  clear H
  rintro e w ⟨v2, k2, h2, rfl, a2, b2, c2, H⟩
  go_wp2_with (first
    | go_skip
    | ((with_reducible refine at_box ?_); first | (refine wpList_box_H rfl rfl H rfl (by constructor) ?_; clear H; intro b w H))
    | ((with_reducible refine at_alloc ?_); first | (refine wpList_alloc_H rfl rfl H ?_; clear H; intro b w H))
    | ((with_reducible refine at_load ?_); first | (refine wpList_load_H rfl rfl H rfl (by repeat constructor) ?_) | (refine wpList_loads_H rfl rfl H rfl (by repeat constructor) ?_))
    | ((with_reducible refine at_store ?_); first | (refine wpList_store_H rfl rfl H rfl rfl (by repeat constructor) ?_; clear H; intro w H)))
  go_at_call 174
  refine (l01Byte_H s b k2 h2 H .head R Z c2).mono ?_
  clear H
  rintro e w ⟨v3, k3, h3, rfl, a3, b3, c3, H⟩
  go_wp2_with (first
    | go_skip
    | ((with_reducible refine at_box ?_); first | (refine wpList_box_H rfl rfl H rfl (by constructor) ?_; clear H; intro b w H))
    | ((with_reducible refine at_alloc ?_); first | (refine wpList_alloc_H rfl rfl H ?_; clear H; intro b w H))
    | ((with_reducible refine at_load ?_); first | (refine wpList_load_H rfl rfl H rfl (by repeat constructor) ?_) | (refine wpList_loads_H rfl rfl H rfl (by repeat constructor) ?_))
    | ((with_reducible refine at_store ?_); first | (refine wpList_store_H rfl rfl H rfl rfl (by repeat constructor) ?_; clear H; intro w H)))
  go_at_call 174
  refine (l01Byte_H s b k3 h3 H .head R Z c3).mono ?_
  clear H
  rintro e w ⟨v4, k4, h4, rfl, a4, b4, c4, H⟩
  go_wp2_with (first
    | go_skip
    | ((with_reducible refine at_box ?_); first | (refine wpList_box_H rfl rfl H rfl (by constructor) ?_; clear H; intro b w H))
    | ((with_reducible refine at_alloc ?_); first | (refine wpList_alloc_H rfl rfl H ?_; clear H; intro b w H))
    | ((with_reducible refine at_load ?_); first | (refine wpList_load_H rfl rfl H rfl (by repeat constructor) ?_) | (refine wpList_loads_H rfl rfl H rfl (by repeat constructor) ?_))
    | ((with_reducible refine at_store ?_); first | (refine wpList_store_H rfl rfl H rfl rfl (by repeat constructor) ?_; clear H; intro w H)))
  go_ret
  refine ⟨_, k4, h4, rfl, ?_, ?_, c4, H⟩
  · first | omega | (apply Int.tmod_nonneg; omega) | (trace_state; sorry)
  · first | omega | (have := Int.tmod_lt_of_pos (v1 * 16777216 + v2 * 65536 + v3 * 256 + v4) (by decide : (0 : Int) < 10000); omega) | (trace_state; sorry)
set_option maxRecDepth 100000 in
set_option maxHeartbeats 4000000 in
theorem drawPlaces_c (s : Sl Int) (W0 : World) (R : Rd u8cell 1 W0 s) (Z : s.xs.length ≤ 1048576) : Calls Tryz.prog 21 #[.slice s.A s.xs.length s.c] W0 fun e w' => ∃ d : Sl Int, e = .returned (.slice d.A d.xs.length d.c) ∧ d.xs.length = 12 ∧ (∀ x ∈ d.xs, 0 ≤ x ∧ x ≤ 9999) ∧ Hp W0 w' [.int d] := by
  have H := Hp.start W0
  go_enter Tryz.func21, Tryz.ntmps21
  go_wp2_with (first
    | go_skip
    | ((with_reducible refine at_box ?_); first | (refine wpList_box_H rfl rfl H rfl (by constructor) ?_; clear H; intro b w H))
    | ((with_reducible refine at_alloc ?_); first | (refine wpList_alloc_H rfl rfl H ?_; clear H; intro b w H))
    | ((with_reducible refine at_load ?_); first | (refine wpList_load_H rfl rfl H rfl (by repeat constructor) ?_) | (refine wpList_loads_H rfl rfl H rfl (by repeat constructor) ?_))
    | ((with_reducible refine at_store ?_); first | (refine wpList_store_H rfl rfl H rfl rfl (by repeat constructor) ?_; clear H; intro w H))
    | ((with_reducible refine at_slice ?_); first | (refine wpList_nil_H rfl rfl H ?_; clear H; intro bn w H))
    | (go_at_call 65; refine (l01New_c s _ (R.at_ H) Z).mono ?_; rintro e w ⟨b, h, rfl, K⟩; replace H := H.add_all K; clear K))
  go_loopw [4, 5] (fun ov i wr => ∃ (k j : Nat) (h : Int) (d : Sl Int), k ≤ 12 ∧ j ≤ s.xs.length ∧ i = .int .i64 k ∧ ov = .slice d.A d.xs.length d.c ∧ Hid (d.xs.length = k) ∧ Hid (∀ x ∈ d.xs, 0 ≤ x ∧ x ≤ 9999) ∧ Hp W0 wr [.cur b s j h, .int d]) (fun _ i _ => 12 - (intOf i).toNat)
  case atStart => exact ⟨0, 0, h, ⟨some ⟨bn, 0, none⟩, 0, []⟩, by omega, by omega, rfl, rfl, Lib.hid rfl, Lib.hid (by simp), H.pick (.cons (by repeat constructor) (.cons (by repeat constructor) .nil))⟩
  case round =>
    clear H
    obtain ⟨k, j, h, d, hk0, hj, rfl, rfl, HL, HB, H⟩ := hrel
    by_cases hk : k < 12
    · skip
      go_wp2_with (first
        | go_skip
        | ((with_reducible refine at_box ?_); first | (refine wpList_box_H rfl rfl H rfl (by constructor) ?_; clear H; intro b w H))
        | ((with_reducible refine at_alloc ?_); first | (refine wpList_alloc_H rfl rfl H ?_; clear H; intro b w H))
        | ((with_reducible refine at_load ?_); first | (refine wpList_load_H rfl rfl H rfl (by repeat constructor) ?_) | (refine wpList_loads_H rfl rfl H rfl (by repeat constructor) ?_))
        | ((with_reducible refine at_store ?_); first | (refine wpList_store_H rfl rfl H rfl rfl (by repeat constructor) ?_; clear H; intro w H))
        | ((with_reducible refine at_slice ?_); first | (refine wpList_one_H rfl rfl H v rfl CellsOf.int rfl (by decide) ?_; clear H; intro bl w H))
        | ((with_reducible refine at_append ?_); first | (refine wpList_append_H rfl rfl H d (⟨some ⟨bl, 0, none⟩, 1, [v]⟩ : Sl Int) rfl rfl (by repeat constructor) (H.rd (s := (⟨some ⟨bl, 0, none⟩, 1, [v]⟩ : Sl Int)) (by repeat constructor) int_len) (by have := HL.out; simp only [List.length_cons, List.length_nil]; omega) (by decide) ?_; clear H; intro d' w hx' H))
        | (go_at_call 94; refine (l01Below4_H s b j h H .head R Z hj).mono ?_; clear H; rintro e w ⟨v, j', h', rfl, v0, v9, hj', H⟩))
      go_roundw
      case rel =>
        refine ⟨k + 1, j', h', d', by omega, hj', by go_num, rfl, Lib.hid (by rw [hx'.out]; simp [HL.out]), Lib.hid ?_, H.pick (.cons (by repeat constructor) (.cons (by repeat constructor) .nil))⟩
        rw [hx'.out]
        intro x hx
        rcases List.mem_append.1 hx with hx | hx
        · exact HB.out x hx
        · have : x = v := by simpa using hx
          subst this; exact ⟨v0, v9⟩
      case measure => simp [intOf]; omega
    · have hke : k = 12 := by omega
      subst hke
      go_wp2
      go_ret
      exact ⟨d, rfl, HL.out, HB.out, H.pick (.cons (by repeat constructor) .nil)⟩
end Go.Proofs.YtaafnenmdombiaaGreat
