/- Contracts of BareRead, of the program and of the reference. No condition but that the arguments lie in memory. -/
import Derived.Test.YtjiiobliadeldaaBu
namespace Go.Proofs.Ytjiiobliadeldaa
set_option linter.unusedSimpArgs false
set_option linter.unusedVariables false
open Go.RowKit
section
variable {P : Program} {ops : Array Oper} {S : World → Prop} {o : Oper} {a : Act} {w0 w : World} {L L' : List En} {α : Type} {enc : α → List Value} {sz e : Nat}
theorem yields_index_n (hw : Region.wanted o (yielded ops a.tmps) = true) {t : TypeId} {x ix : Operand} (ho : o.op = .indexAddr t x ix) {bytes : Nat} [hE : EI P t enc sz bytes e] (s : Sl α) (hR : ∀ w, S w → Rd enc sz w s) {k m : Nat} (hx : a.eval x = .slice s.A m s.c) (hi : a.eval ix = .int .i64 k)
    (hm : s.xs.length = m) (h1 : k < m) : YieldsIf P ops S o (.pointer (some ⟨ablk s.A, aoff s.A + k * sz, none⟩)) a := by
  subst hm
  refine .inl ⟨hw, fun w hS => ?_⟩
  obtain ⟨i, z, hi', hz, hsize, hby, hzs⟩ := hE.info.hi
  obtain ⟨hA, _⟩ := (hR w hS).addr (k := k) h1
  have hr : (Instr.indexAt t (.slice s.A s.xs.length s.c) (.int .i64 k)).run P w = .ok (.pointer (some ⟨ablk s.A, aoff s.A + k * sz, none⟩)) w := by
    rw [hA]
    simp [Instr.indexAt, asIntOf, run_underlying hE.info.ht, sizeOf, typeInfo, hi', hsize, h1, addj, ablk, aoff, go_sem]
  unfold execOp
  simp only [ho, hx, hi, Sem.run_bind, Sem.run_pure, Result.andThen_ok, hr]
theorem yields_load_rd (hw : Region.wanted o (yielded ops a.tmps) = true) {ty : TypeId} {x : Operand} (ho : o.op = .load ty x) (s : Sl α) (hR : ∀ w, S w → Rd enc sz w s) {q : Nat} (hx : a.eval x = .pointer (some ⟨ablk s.A, q, none⟩)) [hT : TyS P ty] {k : Nat} (y : α) (hk : s.xs[k]? = some y) {j : Nat} (hq : q = aoff s.A + k * sz + j) {v : Value} (hv : (enc y)[j]? = some v) :
    YieldsIf P ops S o v a := by
  subst hq
  refine .inl ⟨hw, fun w hS => ?_⟩
  have hr : (Instr.loadAt ty (a.eval x)).run P w = .ok v w := by rw [hx]; exact run_load_rd (hR w hS) hT hk hv
  unfold execOp
  simp only [ho, Sem.run_bind, Sem.run_pure, Result.andThen_ok, hr]
end
def atPM (m : MB) (g a n : Int) : Int := if reachOkM m g a then walkPageM (gAtM m g).live (addrPageM a) n else -1
theorem gs_m {B : BV} {k : Nat} {y : GV} (hy : B.gs.xs[k]? = some y) : gAtM B.m k = y.m := (gAtM_hit hy).1
set_option linter.unusedSimpArgs false in
set_option linter.unusedVariables false in
set_option maxRecDepth 100000 in
set_option maxHeartbeats 4000000 in
theorem bareRead_c (B : BV) (g a : Int) (ha : a ≤ 9223372036854775807) (ha' : -9223372036854775808 ≤ a) (W0 : World) (R : BRd W0 B) (Z : BBig B) : Calls Try.prog 23 #[B.val, .int .i64 g, .int .i64 a] W0 fun e w' => e = .returned (.tuple #[.int .i64 (readM B.m g a), .bool (readOkM B.m g a)]) ∧ Hp W0 w' [] := by
  have hrd : readOkM B.m g a = reachBM B.m g a 1 := rfl
  obtain ⟨pg, hpg⟩ : ∃ pg, pg = reachPM B.m g a 1 := ⟨_, rfl⟩
  have HP : Hid (reachPM B.m g a 1 = pg) := hpg.symm
  obtain ⟨cl, hcl⟩ : ∃ cl, cl = reachCM B.m g a := ⟨_, rfl⟩
  have HC : Hid (reachCM B.m g a = cl) := hcl.symm
  clear hpg hcl
  cases e1 : reachBM B.m g a 1
  · rw [e1] at hrd
    have HR := Lib.hid hrd; clear hrd
    have H := Hp.start W0
    go_enter Try.func23, Try.ntmps23
    go_wp2_with (first
      | go_skip
      | ((with_reducible refine at_box ?_); first | (refine wpList_box_H rfl rfl H rfl (by first | exact CellsOf.agg | exact CellsOf.int | exact CellsOf.bool | exact CellsOf.slice | exact CellsOf.string | exact CellsOf.pointer | exact CellsOf.func) ?_; clear H; intro bB w H))
      | ((with_reducible refine at_alloc ?_); first | (refine wpList_alloc_H rfl rfl H ?_; clear H; intro b w H))
      | ((with_reducible refine at_load ?_); first | (refine wpList_load_H rfl rfl H rfl (by repeat (first | exact LoadAt.here rfl | apply LoadAt.there)) ?_) | (refine wpList_loads_H rfl rfl H rfl (by repeat (first | (apply LoadsAt.here; repeat (first | exact GetsAt.nil | apply GetsAt.here | apply GetsAt.there)) | apply LoadsAt.there)) ?_))
      | ((with_reducible refine at_store ?_); first | (refine wpList_store_H rfl rfl H rfl rfl (by repeat (first | (apply StoreAt.here; (first | exact CellsOf.agg | exact CellsOf.int | exact CellsOf.bool | exact CellsOf.slice | exact CellsOf.string | exact CellsOf.pointer | exact CellsOf.func); (repeat (first | exact SetsAt.nil | apply SetsAt.here | apply SetsAt.there)); exact rfl; exact rfl) | apply StoreAt.there)) ?_; clear H; intro w H))
      | (go_at_call 74; refine (reach_c B g a 1 ha ha' _ (R.at_ H) Z).mono ?_; rintro e w ⟨he, K⟩; rw [e1, HP.out, HC.out] at he; subst he; replace H := H.add_all K; clear K))
    go_ret2
    refine ⟨?_, H.pick .nil⟩
    unfold readM; rw [HR.out]; rfl
  · rw [e1] at hrd
    have HR := Lib.hid hrd; clear hrd
    have hro : reachOkM B.m g a = true := by unfold reachBM at e1; simp only [Bool.and_eq_true] at e1; exact e1.1
    have HRO := Lib.hid hro; clear hro
    have H := Hp.start W0
    go_enter Try.func23, Try.ntmps23
    go_wp2_with (first
      | go_skip
      | ((with_reducible refine at_box ?_); first | (refine wpList_box_H rfl rfl H rfl (by first | exact CellsOf.agg | exact CellsOf.int | exact CellsOf.bool | exact CellsOf.slice | exact CellsOf.string | exact CellsOf.pointer | exact CellsOf.func) ?_; clear H; intro bB w H))
      | ((with_reducible refine at_alloc ?_); first | (refine wpList_alloc_H rfl rfl H ?_; clear H; intro b w H))
      | ((with_reducible refine at_load ?_); first | (refine wpList_load_H rfl rfl H rfl (by repeat (first | exact LoadAt.here rfl | apply LoadAt.there)) ?_) | (refine wpList_loads_H rfl rfl H rfl (by repeat (first | (apply LoadsAt.here; repeat (first | exact GetsAt.nil | apply GetsAt.here | apply GetsAt.there)) | apply LoadsAt.there)) ?_))
      | ((with_reducible refine at_store ?_); first | (refine wpList_store_H rfl rfl H rfl rfl (by repeat (first | (apply StoreAt.here; (first | exact CellsOf.agg | exact CellsOf.int | exact CellsOf.bool | exact CellsOf.slice | exact CellsOf.string | exact CellsOf.pointer | exact CellsOf.func); (repeat (first | exact SetsAt.nil | apply SetsAt.here | apply SetsAt.there)); exact rfl; exact rfl) | apply StoreAt.there)) ?_; clear H; intro w H))
      | (go_at_call 74; refine (reach_c B g a 1 ha ha' _ (R.at_ H) Z).mono ?_; rintro e w ⟨he, K⟩; rw [e1, HP.out, HC.out] at he; subst he; replace H := H.add_all K; clear K)
      | (go_at_call 66; refine (cellAt_c B.mem pg cl _ (R.mem.at_ H) (fun x hx => (R.memi x hx).at_ H) Z.mem Z.memi).mono ?_; rintro e w ⟨he, K⟩; subst he; replace H := H.add_all K; clear K))
    go_ret2
    refine ⟨?_, H.pick .nil⟩
    unfold readM; rw [HR.out, ← HP.out, ← HC.out]; unfold reachPM reachCM; rw [HRO.out]; rfl
end Go.Proofs.Ytjiiobliadeldaa
