/- Contracts of BarePost and BareAck, of the program and of the reference. No condition but that the arguments lie in memory. -/
import Derived.Test.YtaafnenmdombiaaDf
import Derived.Test.YtaafnenmdombiaaBr
import Derived.Test.YtaafnenmdombiaaIrq
namespace Go.Proofs.Ytaafnenmdombiaa
open Go.RowKit
theorem wp_load_elP {P : Program} {o : Oper} {a : Act} {w : World} {Q : Go.Exit → Act → World → Prop} {K : Act → World → Prop} {α : Type} {enc : α → List Value} {sz : Nat} {ty : TypeId} {x : Operand} (ho : o.op = .load ty x) (s : Sl α) (hs : Rd enc sz w s) {q : Nat} (hx : a.eval x = .pointer (some ⟨ablk s.A, q, none⟩)) [hS : TyS P ty] {k : Nat} (y : α) (hk : s.xs[k]? = some y) {j : Nat} (hq : q = aoff s.A + k * sz + j) {v : Value} (hv : (enc y)[j]? = some v)
    (h : K (a.put o.dst v) w) : o.wp P a w K Q := by
  subst hq
  have hr : (Instr.loadAt ty (a.eval x)).run P w = .ok v w := by rw [hx]; exact run_load_rd hs hS hk hv
  unfold Oper.wp execOp
  simp only [ho, Sem.run_bind, Sem.run_pure, Result.andThen_ok, hr]
  exact h
def bpostOkM (m : MB) (n : Int) : Bool := bareOkM m && inB n 0 7
def postAt (n : Int) (m : MB) (i : Int) : MB := withGuestM m i { gAtM m i with pending := postM (gAtM m i).pending n }
def postTo (n : Int) (m : MB) (l : List Int) : MB := l.foldl (postAt n) m
def bpostM (m : MB) (n : Int) : MB := if bpostOkM m n then (if (postedM m n).length = 0 then { m with pending := postM m.pending n } else postTo n m (postedM m n)) else m
def ackOkM (m : MB) : Bool := bareOkM m && decide (0 ≤ topI m.pending)
def ackN (m : MB) : Int := if ackOkM m then topI m.pending else -1
def ackM (m : MB) : MB := if ackOkM m then { m with pending := tookI m.pending } else m
theorem postAt_len (n : Int) (m : MB) (i : Int) : (postAt n m i).guests.length = m.guests.length := by
  unfold postAt withGuestM; split <;> simp
theorem postTo_len (n : Int) : ∀ (l : List Int) (m : MB), (postTo n m l).guests.length = m.guests.length
  | [], _ => rfl
  | i :: l, m => (postTo_len n l (postAt n m i)).trans (postAt_len n m i)
theorem postTo_snoc (n : Int) (m : MB) {l : List Int} {k : Nat} {i : Int} (h : l[k]? = some i) : postTo n m (l.take (k + 1)) = postAt n (postTo n m (l.take k)) i := by
  unfold postTo
  rw [List.take_add_one, h, Option.toList_some, List.foldl_append]; rfl
theorem idx_mem {α : Type} {p : α → Bool} : ∀ {l : List α} {k : Nat} {i : Int}, i ∈ idxFrom p k l → ∃ (j : Nat) (y : α), i = ((k + j : Nat) : Int) ∧ l[j]? = some y ∧ p y = true
  | [], _, _, h => by simp [idxFrom] at h
  | x :: l, k, i, h => by
    simp only [idxFrom, List.mem_append] at h
    rcases h with h | h
    · split at h
      · rename_i hp
        rw [List.mem_singleton] at h
        exact ⟨0, x, by simpa using h, rfl, hp⟩
      · simp at h
    · obtain ⟨j, y, h1, h2, h3⟩ := idx_mem h
      exact ⟨j + 1, y, by rw [h1]; congr 1; omega, by simpa using h2, h3⟩
theorem top_neg {p : Int} (h : ¬ 0 ≤ topI p) : topI p = -1 ∧ tookI p = p := by
  refine ⟨?_, by unfold tookI; rw [if_pos (by omega)]⟩
  unfold topI at *
  split
  · rename_i hp
    rw [if_pos hp] at h
    repeat' split
    all_goals first
      | rfl
      | (exfalso; revert h; simp_all; done)
      | (exfalso; revert h; simp_all; omega)
  · rfl
set_option linter.unusedSimpArgs false in
set_option linter.unusedVariables false in
set_option maxRecDepth 100000 in
set_option maxHeartbeats 4000000 in
theorem barePost_c (B : BV) (n : Int) (W0 : World) (R : BRd W0 B) (Z : BBig B) : Calls Try.prog 15 #[B.val, .int .i64 n] W0 fun e w' => ∃ d : BV, e = .returned (.tuple #[d.val, .bool (bpostOkM B.m n)]) ∧ d.m = bpostM B.m n ∧ Hp W0 w' [.bare d] := by
  have ho : bpostOkM B.m n = (bareOkM B.m && inB n 0 7) := rfl
  cases e1 : bareOkM B.m <;> cases e2 : inB n 0 7
  case true.true =>
    rw [e1, e2] at ho
    have HO := Lib.hid ho
    clear ho
    have H := Hp.start W0
    go_enter Try.func15, Try.ntmps15
    go_wp2_with (first
      | go_skip
      | ((with_reducible refine at_box ?_); first | (refine wpList_box_H rfl rfl H rfl (by first | exact CellsOf.agg | exact CellsOf.int | exact CellsOf.bool | exact CellsOf.slice | exact CellsOf.string | exact CellsOf.pointer | exact CellsOf.func) ?_; clear H; intro bB w H))
      | ((with_reducible refine at_alloc ?_); first | ((with_reducible refine at_dst 4 ?_); refine wpList_alloc_H rfl rfl H ?_; clear H; intro bR w H) | ((with_reducible refine at_dst 6 ?_); refine wpList_alloc_H rfl rfl H ?_; clear H; intro bO w H) | (refine wpList_alloc_H rfl rfl H ?_; clear H; intro bQ w H))
      | ((with_reducible refine at_load ?_); first | (refine wpList_load_H rfl rfl H rfl (by repeat (first | exact LoadAt.here rfl | apply LoadAt.there)) ?_) | (refine wpList_loads_H rfl rfl H rfl (by repeat (first | (apply LoadsAt.here; repeat (first | exact GetsAt.nil | apply GetsAt.here | apply GetsAt.there)) | apply LoadsAt.there)) ?_))
      | ((with_reducible refine at_store ?_); first | (refine wpList_store_H rfl rfl H rfl rfl (by repeat (first | (apply StoreAt.here; (first | exact CellsOf.agg | exact CellsOf.int | exact CellsOf.bool | exact CellsOf.slice | exact CellsOf.string | exact CellsOf.pointer | exact CellsOf.func); (repeat (first | exact SetsAt.nil | apply SetsAt.here | apply SetsAt.there)); exact rfl; exact rfl) | apply StoreAt.there)) ?_; clear H; intro w H))
      | (go_at_call 28; refine (copyBare_c B _ (R.at_ H) Z).mono ?_; rintro e w ⟨d, rfl, x1, K⟩; have HD := Lib.hid x1; clear x1; have Zd := m_big HD Z; have zdg := Zd.gs; replace H := (H.add_all K); clear K)
      | (go_at_call 29; refine (bareOk_c B _ (R.at_ H) Z).mono ?_; rintro e w ⟨he, K⟩; rw [e1] at he; subst he; replace H := H.add_all K; clear K)
      | (go_at_call 31; refine (within_any _ _ _ _).mono ?_; rintro e w' ⟨he, hw⟩; subst hw; rw [e2] at he; subst he)
      | (go_at_call 17; refine (postedTo_c B n _ (R.at_ H) Z.gs).mono ?_; rintro e w ⟨c, rfl, x1, K⟩; have HC := Lib.hid x1; clear x1; replace H := (H.add_all K); clear K))
    have hcl : c.xs.length ≤ 4194304 := by rw [HC.out]; exact Nat.le_trans (idx_len _ _ _) (by have := Z.gs; simpa [BV.m, gsOf] using this)
    go_loopw [26] (fun i wr => ∃ (k : Nat) (x : BV), k ≤ c.xs.length ∧ i = .int .i64 k ∧ Hid (x.m = postTo n B.m (c.xs.take k)) ∧ Hp W0 wr [.bare x, .int c, .box bO 28 (barr x).toList, .box bR 28 [.slice none 0 0, .slice none 0 0, .slice none 0 0, .int .i64 0]]) (fun i _ => c.xs.length - (intOf i).toNat)
    case atStart => exact ⟨0, d, by omega, rfl, Lib.hid (by rw [HD.out]; rfl), H.pick (.cons (by repeat (first | exact Take.head | apply Take.tail)) (.cons (by repeat (first | exact Take.head | apply Take.tail)) (.cons (by repeat (first | exact Take.head | apply Take.tail)) (.cons (by repeat (first | exact Take.head | apply Take.tail)) .nil))))⟩
    case round =>
      clear H HD Zd zdg
      obtain ⟨k, x, hk0, rfl, HX, H⟩ := hrel
      by_cases hk : k < c.xs.length
      · obtain ⟨v, hv⟩ : ∃ v, c.xs[k]? = some v := ⟨_, List.getElem?_eq_getElem hk⟩
        have hvm : v ∈ postedM B.m n := by rw [← HC.out]; exact List.mem_of_getElem? hv
        obtain ⟨j, yy, hj1, hj2, _⟩ := idx_mem hvm
        have hvj : v = (j : Int) := by rw [hj1]; simp
        subst hvj
        have hj : j < x.gs.xs.length := by
          have h1 : j < B.m.guests.length := (List.getElem?_eq_some_iff.1 hj2).1
          have h2 := postTo_len n (c.xs.take k) B.m
          rw [← HX.out] at h2
          have h3 : x.m.guests.length = x.gs.xs.length := by simp [BV.m, gsOf]
          omega
        have HV := Lib.hid hv
        obtain ⟨y, hy⟩ : ∃ y, x.gs.xs[j]? = some y := ⟨_, List.getElem?_eq_getElem hj⟩
        have HY := Lib.hid hy
        clear hv hvm hj1 hj2 hy
        replace H := (H.take (e := .bare x) (by repeat (first | exact Take.head | apply Take.tail))).bparts
        go_wp2_with (first
          | go_skip
          | ((with_reducible refine at_box ?_); first | (refine wpList_box_H rfl rfl H rfl (by first | exact CellsOf.agg | exact CellsOf.int | exact CellsOf.bool | exact CellsOf.slice | exact CellsOf.string | exact CellsOf.pointer | exact CellsOf.func) ?_; clear H; intro b w H))
          | ((with_reducible refine at_alloc ?_); first | (refine wpList_alloc_H rfl rfl H ?_; clear H; intro b w H))
          | ((with_reducible refine at_load ?_); first | (refine wpList_load_rd rfl rfl c (H.rd (s := c) (by repeat (first | exact Take.head | apply Take.tail)) int_len) rfl (j : Int) HV.out rfl ?_) | (refine wpList_load_H rfl rfl H rfl (by repeat (first | exact LoadAt.here rfl | apply LoadAt.there)) ?_) | (refine wpList_loads_H rfl rfl H rfl (by repeat (first | (apply LoadsAt.here; repeat (first | exact GetsAt.nil | apply GetsAt.here | apply GetsAt.there)) | apply LoadsAt.there)) ?_))
          | ((with_reducible refine at_store ?_); first | (refine wpList_store_H rfl rfl H rfl rfl (by repeat (first | (apply StoreAt.here; (first | exact CellsOf.agg | exact CellsOf.int | exact CellsOf.bool | exact CellsOf.slice | exact CellsOf.string | exact CellsOf.pointer | exact CellsOf.func); (repeat (first | exact SetsAt.nil | apply SetsAt.here | apply SetsAt.there)); exact rfl; exact rfl) | apply StoreAt.there)) ?_; clear H; intro w H))
          | ((with_reducible refine at_index ?_); first | (refine wpList_index_n rfl rfl (k := k) c (H.rd (s := c) (by repeat (first | exact Take.head | apply Take.tail)) int_len) rfl rfl rfl hk ?_)))
        refine wp_cut (fun u a' w' => ∃ (_ : Unit), Hid True ∧ Hp W0 w' [.gsl (⟨x.gs.A, x.gs.c, x.gs.xs.set j (⟨y.prog, y.a, y.pc, y.written, y.live, y.ctl, (postM y.pending n), y.exit, y.halted, y.seen⟩ : GV)⟩ : Sl GV), .many En.gst x.gs.xs, .rows x.mem, .many En.int x.mem.xs, .int x.outs, .int c, .box bO 28 (barr x).toList, .box bR 28 [.slice none 0 0, .slice none 0 0, .slice none 0 0, .int .i64 0]] ∧ a' = puts u [(31, .pointer (some ⟨bO, 1, none⟩)), (32, (.slice x.gs.A x.gs.xs.length x.gs.c)), (33, (.int .i64 (j : Int))), (34, .pointer (some ⟨bO, 1, none⟩)), (35, (.slice x.gs.A x.gs.xs.length x.gs.c)), (36, (.int .i64 (j : Int))), (37, (.pointer (some ⟨ablk x.gs.A, aoff x.gs.A + j * 15, none⟩))), (38, (.pointer (some ⟨ablk x.gs.A, aoff x.gs.A + j * 15 + 8, none⟩))), (39, (.int .i64 y.pending)), (40, (.int .i64 n)), (41, (.tuple #[.int .i64 (postM y.pending n), .bool (postOkM y.pending n)])), (30, (.tuple #[.int .i64 (postM y.pending n), .bool (postOkM y.pending n)])), (42, (.int .i64 (postM y.pending n))), (43, (.bool (postOkM y.pending n))), (44, (.pointer (some ⟨ablk x.gs.A, aoff x.gs.A + j * 15, none⟩))), (45, (.pointer (some ⟨ablk x.gs.A, aoff x.gs.A + j * 15 + 8, none⟩)))]) ?_ ?_
        · refine wp_region_held (S := (fun w' => Rw w' bO 28 (barr x) ∧ Rd icell 1 w' c)) (by kernel_rfl) ?_
          replace H := H.drew
          refine takeH (i := 0) rfl .here (by kernel_rfl) (by kernel_rfl) (by kernel_rfl) (fun _ _ _ h => absurd h.1 (by simp)) (yields_val (v := .pointer (some ⟨bO, 1, none⟩)) rfl (fun _ => by go_simp)) ⟨H.rw_ (by repeat (first | exact Take.head | apply Take.tail)), (H.rd (s := c) (by repeat (first | exact Take.head | apply Take.tail)) int_len)⟩ ?_
          (try simp only [Act.put, List.setIfInBounds_toArray, List.set_cons_succ, List.set_cons_zero])
          refine takeH (i := 1) rfl (.there .here) (by kernel_rfl) (by kernel_rfl) (by kernel_rfl) (fun _ _ _ h => absurd h.1 (by simp)) (yields_load1_R rfl rfl rfl (fun _ hS => hS.1) rfl) ⟨H.rw_ (by repeat (first | exact Take.head | apply Take.tail)), (H.rd (s := c) (by repeat (first | exact Take.head | apply Take.tail)) int_len)⟩ ?_
          (try simp only [Act.put, List.setIfInBounds_toArray, List.set_cons_succ, List.set_cons_zero])
          refine takeH (i := 2) rfl (.there (.there .here)) (by kernel_rfl) (by kernel_rfl) (by kernel_rfl) (fun _ _ _ h => absurd h.1 (by simp)) (yields_val (v := (.int .i64 (j : Int))) rfl (fun _ => by go_simp)) ⟨H.rw_ (by repeat (first | exact Take.head | apply Take.tail)), (H.rd (s := c) (by repeat (first | exact Take.head | apply Take.tail)) int_len)⟩ ?_
          (try simp only [Act.put, List.setIfInBounds_toArray, List.set_cons_succ, List.set_cons_zero])
          refine takeH (i := 3) rfl (.there (.there (.there .here))) (by kernel_rfl) (by kernel_rfl) (by kernel_rfl) (fun _ _ _ h => absurd h.1 (by simp)) (yields_val (v := .pointer (some ⟨bO, 1, none⟩)) rfl (fun _ => by go_simp)) ⟨H.rw_ (by repeat (first | exact Take.head | apply Take.tail)), (H.rd (s := c) (by repeat (first | exact Take.head | apply Take.tail)) int_len)⟩ ?_
          (try simp only [Act.put, List.setIfInBounds_toArray, List.set_cons_succ, List.set_cons_zero])
          refine takeH (i := 4) rfl (.there (.there (.there (.there .here)))) (by kernel_rfl) (by kernel_rfl) (by kernel_rfl) (fun _ _ _ h => absurd h.1 (by simp)) (yields_load1_R rfl rfl rfl (fun _ hS => hS.1) rfl) ⟨H.rw_ (by repeat (first | exact Take.head | apply Take.tail)), (H.rd (s := c) (by repeat (first | exact Take.head | apply Take.tail)) int_len)⟩ ?_
          (try simp only [Act.put, List.setIfInBounds_toArray, List.set_cons_succ, List.set_cons_zero])
          refine takeH (i := 5) rfl (.there (.there (.there (.there (.there .here))))) (by kernel_rfl) (by kernel_rfl) (by kernel_rfl) (fun _ _ _ h => absurd h.1 (by simp)) (yields_val (v := (.int .i64 (j : Int))) rfl (fun _ => by go_simp)) ⟨H.rw_ (by repeat (first | exact Take.head | apply Take.tail)), (H.rd (s := c) (by repeat (first | exact Take.head | apply Take.tail)) int_len)⟩ ?_
          (try simp only [Act.put, List.setIfInBounds_toArray, List.set_cons_succ, List.set_cons_zero])
          refine takeH (i := 9) rfl (.there (.there (.there (.there (.there (.there (.there (.there (.there .here))))))))) (by kernel_rfl) (by kernel_rfl) (by kernel_rfl) (fun _ _ _ h => absurd h.1 (by simp)) (yields_val (v := (.int .i64 n)) rfl (fun _ => by go_simp)) ⟨H.rw_ (by repeat (first | exact Take.head | apply Take.tail)), (H.rd (s := c) (by repeat (first | exact Take.head | apply Take.tail)) int_len)⟩ ?_
          (try simp only [Act.put, List.setIfInBounds_toArray, List.set_cons_succ, List.set_cons_zero])
          refine anyH_1 (i := 6) (by kernel_rfl) ?_
          refine wpOp_at rfl (.there (.there (.there (.there (.there (.there .here)))))) rfl ?_
          refine wp_index_n (k := j) rfl x.gs (H.rdgsl (s := x.gs) (by repeat (first | exact Take.head | apply Take.tail))) rfl rfl rfl hj ?_
          refine ⟨⟨H.rw_ (by repeat (first | exact Take.head | apply Take.tail)), (H.rd (s := c) (by repeat (first | exact Take.head | apply Take.tail)) int_len)⟩, ?_⟩
          (try simp only [Act.put, List.setIfInBounds_toArray, List.set_cons_succ, List.set_cons_zero])
          refine takeH (i := 7) rfl (.there (.there (.there (.there (.there (.there (.there .here))))))) (by kernel_rfl) (by kernel_rfl) (by kernel_rfl) (fun _ _ _ h => absurd h.1 (by simp)) (yields_val (v := (.pointer (some ⟨ablk x.gs.A, aoff x.gs.A + j * 15 + 8, none⟩))) rfl (fun _ => by go_simp)) ⟨H.rw_ (by repeat (first | exact Take.head | apply Take.tail)), (H.rd (s := c) (by repeat (first | exact Take.head | apply Take.tail)) int_len)⟩ ?_
          (try simp only [Act.put, List.setIfInBounds_toArray, List.set_cons_succ, List.set_cons_zero])
          refine anyH_1 (i := 8) (by kernel_rfl) ?_
          refine wpOp_at rfl (.there (.there (.there (.there (.there (.there (.there (.there .here)))))))) rfl ?_
          refine wp_load_elP rfl x.gs (H.rdgsl (s := x.gs) (by repeat (first | exact Take.head | apply Take.tail))) rfl y HY.out (j := 8) rfl rfl ?_
          refine ⟨⟨H.rw_ (by repeat (first | exact Take.head | apply Take.tail)), (H.rd (s := c) (by repeat (first | exact Take.head | apply Take.tail)) int_len)⟩, ?_⟩
          (try simp only [Act.put, List.setIfInBounds_toArray, List.set_cons_succ, List.set_cons_zero])
          refine anyH_1 (i := 10) (by kernel_rfl) ?_
          refine wpOp_at rfl (.there (.there (.there (.there (.there (.there (.there (.there (.there (.there .here)))))))))) rfl ?_
          refine wp_call_H Try.f43 rfl rfl Try.func43 (by kernel_rfl) rfl rfl (val_H H (postIrq_c y.pending n _)) ?_
          clear H
          rintro _ w ⟨rfl, H⟩
          refine ⟨⟨H.rw_ (by repeat (first | exact Take.head | apply Take.tail)), (H.rd (s := c) (by repeat (first | exact Take.head | apply Take.tail)) int_len)⟩, ?_⟩
          (try simp only [Act.put, List.setIfInBounds_toArray, List.set_cons_succ, List.set_cons_zero])
          refine takeH (i := 11) rfl (.there (.there (.there (.there (.there (.there (.there (.there (.there (.there (.there .here))))))))))) (by kernel_rfl) (by kernel_rfl) (by kernel_rfl) (fun _ _ _ h => absurd h.1 (by simp)) (yields_val (v := (.tuple #[.int .i64 (postM y.pending n), .bool (postOkM y.pending n)])) rfl (fun _ => by go_simp)) ⟨H.rw_ (by repeat (first | exact Take.head | apply Take.tail)), (H.rd (s := c) (by repeat (first | exact Take.head | apply Take.tail)) int_len)⟩ ?_
          (try simp only [Act.put, List.setIfInBounds_toArray, List.set_cons_succ, List.set_cons_zero])
          refine takeH (i := 12) rfl (.there (.there (.there (.there (.there (.there (.there (.there (.there (.there (.there (.there .here)))))))))))) (by kernel_rfl) (by kernel_rfl) (by kernel_rfl) (fun _ _ _ h => absurd h.1 (by simp)) (yields_val (v := (.int .i64 (postM y.pending n))) rfl (fun _ => by go_simp)) ⟨H.rw_ (by repeat (first | exact Take.head | apply Take.tail)), (H.rd (s := c) (by repeat (first | exact Take.head | apply Take.tail)) int_len)⟩ ?_
          (try simp only [Act.put, List.setIfInBounds_toArray, List.set_cons_succ, List.set_cons_zero])
          refine takeH (i := 13) rfl (.there (.there (.there (.there (.there (.there (.there (.there (.there (.there (.there (.there (.there .here))))))))))))) (by kernel_rfl) (by kernel_rfl) (by kernel_rfl) (fun _ _ _ h => absurd h.1 (by simp)) (yields_val (v := (.bool (postOkM y.pending n))) rfl (fun _ => by go_simp)) ⟨H.rw_ (by repeat (first | exact Take.head | apply Take.tail)), (H.rd (s := c) (by repeat (first | exact Take.head | apply Take.tail)) int_len)⟩ ?_
          (try simp only [Act.put, List.setIfInBounds_toArray, List.set_cons_succ, List.set_cons_zero])
          refine anyH_1 (i := 14) (by kernel_rfl) ?_
          refine wpOp_at rfl (.there (.there (.there (.there (.there (.there (.there (.there (.there (.there (.there (.there (.there (.there .here)))))))))))))) rfl ?_
          refine wp_index_n (k := j) rfl x.gs (H.rdgsl (s := x.gs) (by repeat (first | exact Take.head | apply Take.tail))) rfl rfl rfl hj ?_
          refine ⟨⟨H.rw_ (by repeat (first | exact Take.head | apply Take.tail)), (H.rd (s := c) (by repeat (first | exact Take.head | apply Take.tail)) int_len)⟩, ?_⟩
          (try simp only [Act.put, List.setIfInBounds_toArray, List.set_cons_succ, List.set_cons_zero])
          refine takeH (i := 15) rfl (.there (.there (.there (.there (.there (.there (.there (.there (.there (.there (.there (.there (.there (.there (.there .here))))))))))))))) (by kernel_rfl) (by kernel_rfl) (by kernel_rfl) (fun _ _ _ h => absurd h.1 (by simp)) (yields_val (v := (.pointer (some ⟨ablk x.gs.A, aoff x.gs.A + j * 15 + 8, none⟩))) rfl (fun _ => by go_simp)) ⟨H.rw_ (by repeat (first | exact Take.head | apply Take.tail)), (H.rd (s := c) (by repeat (first | exact Take.head | apply Take.tail)) int_len)⟩ ?_
          (try simp only [Act.put, List.setIfInBounds_toArray, List.set_cons_succ, List.set_cons_zero])
          refine anyH_1 (i := 16) (by kernel_rfl) ?_
          refine wpOp_at rfl (.there (.there (.there (.there (.there (.there (.there (.there (.there (.there (.there (.there (.there (.there (.there (.there .here)))))))))))))))) rfl ?_
          refine wp_store_el rfl H x.gs (by repeat (first | exact Take.head | apply Take.tail)) g_len rfl rfl y (⟨y.prog, y.a, y.pc, y.written, y.live, y.ctl, (postM y.pending n), y.exit, y.halted, y.seen⟩ : GV) HY.out rfl (by first | exact CellsOf.agg | exact CellsOf.int | exact CellsOf.bool | exact CellsOf.slice | exact CellsOf.string | exact CellsOf.pointer | exact CellsOf.func) (by repeat (first | exact SetsAt.nil | apply SetsAt.here | apply SetsAt.there)) (by exact rfl) (by exact rfl) ?_
          clear H
          intro w H
          refine ⟨⟨H.rw_ (by repeat (first | exact Take.head | apply Take.tail)), (H.rd (s := c) (by repeat (first | exact Take.head | apply Take.tail)) int_len)⟩, ?_⟩
          (try simp only [Act.put, List.setIfInBounds_toArray, List.set_cons_succ, List.set_cons_zero])
          refine wpAnyH_done (by kernel_rfl) ?_ _
          exact ⟨rfl, (), Lib.hid trivial, H.pick (.cons (by repeat (first | exact Take.head | apply Take.tail)) (.cons (by repeat (first | exact Take.head | apply Take.tail)) (.cons (by repeat (first | exact Take.head | apply Take.tail)) (.cons (by repeat (first | exact Take.head | apply Take.tail)) (.cons (by repeat (first | exact Take.head | apply Take.tail)) (.cons (by repeat (first | exact Take.head | apply Take.tail)) (.cons (by repeat (first | exact Take.head | apply Take.tail)) (.cons (by repeat (first | exact Take.head | apply Take.tail)) .nil)))))))), by first | (simp only [puts_cons, puts_nil, Act.put, List.setIfInBounds_toArray, List.set_cons_succ, List.set_cons_zero]; done) | (simp only [puts_cons, puts_nil, Act.put, List.setIfInBounds_toArray, List.set_cons_succ, List.set_cons_zero]; rfl)⟩
        clear H
        rintro u w ⟨_, _, H, rfl⟩
        simp only [puts_cons, puts_nil, Act.put, List.setIfInBounds_toArray, List.set_cons_succ, List.set_cons_zero]
        replace H := (H.take (e := .many En.gst x.gs.xs) (by repeat (first | exact Take.head | apply Take.tail))).gst_scal HY.out y.a y.pc y.ctl (postM y.pending n) y.exit y.halted
        have eb : barr x = barr (⟨x.mem, (⟨x.gs.A, x.gs.c, x.gs.xs.set j (⟨y.prog, y.a, y.pc, y.written, y.live, y.ctl, (postM y.pending n), y.exit, y.halted, y.seen⟩ : GV)⟩ : Sl GV), x.outs, x.pend⟩ : BV) := by simp [barr]
        rw [eb] at H
        clear eb
        obtain ⟨x2, hx2⟩ : ∃ x2, x2 = (⟨x.mem, (⟨x.gs.A, x.gs.c, x.gs.xs.set j (⟨y.prog, y.a, y.pc, y.written, y.live, y.ctl, (postM y.pending n), y.exit, y.halted, y.seen⟩ : GV)⟩ : Sl GV), x.outs, x.pend⟩ : BV) := ⟨_, rfl⟩
        have HX2 : Hid (x2.m = postTo n B.m (c.xs.take (k + 1))) := by
          refine Lib.hid ?_
          rw [postTo_snoc n B.m HV.out, ← HX.out]
          unfold postAt
          rw [wg_hit HY.out (fun z => { z with pending := postM z.pending n }), hx2]
          simp only [BV.m, gsOf, List.map_set]; rfl
        have H2 : Hp W0 w [.bare x2, .int c, .box bO 28 (barr x2).toList, .box bR 28 [.slice none 0 0, .slice none 0 0, .slice none 0 0, .int .i64 0]] := by
          rw [hx2]
          have h3 : Hp W0 w (.rows x.mem :: .many En.int x.mem.xs :: .gsl (⟨x.gs.A, x.gs.c, x.gs.xs.set j (⟨y.prog, y.a, y.pc, y.written, y.live, y.ctl, (postM y.pending n), y.exit, y.halted, y.seen⟩ : GV)⟩ : Sl GV) :: .many En.gst (⟨x.gs.A, x.gs.c, x.gs.xs.set j (⟨y.prog, y.a, y.pc, y.written, y.live, y.ctl, (postM y.pending n), y.exit, y.halted, y.seen⟩ : GV)⟩ : Sl GV).xs :: .int x.outs :: [.int c, .box bO 28 (barr (⟨x.mem, (⟨x.gs.A, x.gs.c, x.gs.xs.set j (⟨y.prog, y.a, y.pc, y.written, y.live, y.ctl, (postM y.pending n), y.exit, y.halted, y.seen⟩ : GV)⟩ : Sl GV), x.outs, x.pend⟩ : BV)).toList, .box bR 28 [.slice none 0 0, .slice none 0 0, .slice none 0 0, .int .i64 0]]) := H.pick (.cons (by repeat (first | exact Take.head | apply Take.tail)) (.cons (by repeat (first | exact Take.head | apply Take.tail)) (.cons (by repeat (first | exact Take.head | apply Take.tail)) (.cons (by repeat (first | exact Take.head | apply Take.tail)) (.cons (by repeat (first | exact Take.head | apply Take.tail)) (.cons (by repeat (first | exact Take.head | apply Take.tail)) (.cons (by repeat (first | exact Take.head | apply Take.tail)) (.cons (by repeat (first | exact Take.head | apply Take.tail)) .nil))))))))
          exact h3.bare (b := (⟨x.mem, (⟨x.gs.A, x.gs.c, x.gs.xs.set j (⟨y.prog, y.a, y.pc, y.written, y.live, y.ctl, (postM y.pending n), y.exit, y.halted, y.seen⟩ : GV)⟩ : Sl GV), x.outs, x.pend⟩ : BV))
        clear H
        have H := H2
        clear H2 hx2
        go_wp2_with (first
          | go_skip
          | ((with_reducible refine at_box ?_); first | (refine wpList_box_H rfl rfl H rfl (by first | exact CellsOf.agg | exact CellsOf.int | exact CellsOf.bool | exact CellsOf.slice | exact CellsOf.string | exact CellsOf.pointer | exact CellsOf.func) ?_; clear H; intro b w H))
          | ((with_reducible refine at_alloc ?_); first | (refine wpList_alloc_H rfl rfl H ?_; clear H; intro b w H))
          | ((with_reducible refine at_load ?_); first | (refine wpList_load_H rfl rfl H rfl (by repeat (first | exact LoadAt.here rfl | apply LoadAt.there)) ?_) | (refine wpList_loads_H rfl rfl H rfl (by repeat (first | (apply LoadsAt.here; repeat (first | exact GetsAt.nil | apply GetsAt.here | apply GetsAt.there)) | apply LoadsAt.there)) ?_))
          | ((with_reducible refine at_store ?_); first | (refine wpList_store_H rfl rfl H rfl rfl (by repeat (first | (apply StoreAt.here; (first | exact CellsOf.agg | exact CellsOf.int | exact CellsOf.bool | exact CellsOf.slice | exact CellsOf.string | exact CellsOf.pointer | exact CellsOf.func); (repeat (first | exact SetsAt.nil | apply SetsAt.here | apply SetsAt.there)); exact rfl; exact rfl) | apply StoreAt.there)) ?_; clear H; intro w H)))
        go_roundw
        case rel => exact ⟨k + 1, x2, by omega, by go_num, HX2, H.pick (.cons (by repeat (first | exact Take.head | apply Take.tail)) (.cons (by repeat (first | exact Take.head | apply Take.tail)) (.cons (by repeat (first | exact Take.head | apply Take.tail)) (.cons (by repeat (first | exact Take.head | apply Take.tail)) .nil))))⟩
        case measure => simp [intOf]; omega
      · have hke : k = c.xs.length := by omega
        subst hke
        clear hk hk0
        have hx3 := HX.out
        rw [List.take_length] at hx3
        have HX3 := Lib.hid hx3
        clear hx3 HX
        replace H := (H.take (e := .bare x) (by repeat (first | exact Take.head | apply Take.tail))).bparts
        rcases Nat.eq_zero_or_pos c.xs.length with hz | hz
        · have hzi : decide ((c.xs.length : Int) = 0) = true := decide_eq_true (by omega)
          have hzi2 : ((c.xs.length : Int) == 0) = true := by rw [hz]; rfl
          have HP : Hid (x.pend = B.pend) := Lib.hid (by
            have h := HX3.out
            have h0 : c.xs = [] := List.eq_nil_of_length_eq_zero hz
            rw [h0] at h
            exact congrArg MB.pending h)
          go_wp2_with (first
            | go_skip
            | ((with_reducible refine at_box ?_); first | (refine wpList_box_H rfl rfl H rfl (by first | exact CellsOf.agg | exact CellsOf.int | exact CellsOf.bool | exact CellsOf.slice | exact CellsOf.string | exact CellsOf.pointer | exact CellsOf.func) ?_; clear H; intro b w H))
            | ((with_reducible refine at_alloc ?_); first | (refine wpList_alloc_H rfl rfl H ?_; clear H; intro b w H))
            | ((with_reducible refine at_load ?_); first | (refine wpList_load_H rfl rfl H rfl (by repeat (first | exact LoadAt.here rfl | apply LoadAt.there)) ?_) | (refine wpList_loads_H rfl rfl H rfl (by repeat (first | (apply LoadsAt.here; repeat (first | exact GetsAt.nil | apply GetsAt.here | apply GetsAt.there)) | apply LoadsAt.there)) ?_))
            | ((with_reducible refine at_store ?_); first | (refine wpList_store_H rfl rfl H rfl rfl (by repeat (first | (apply StoreAt.here; (first | exact CellsOf.agg | exact CellsOf.int | exact CellsOf.bool | exact CellsOf.slice | exact CellsOf.string | exact CellsOf.pointer | exact CellsOf.func); (repeat (first | exact SetsAt.nil | apply SetsAt.here | apply SetsAt.there)); exact rfl; exact rfl) | apply StoreAt.there)) ?_; clear H; intro w H))
            | (go_at_call 43; refine (postIrq_c x.pend n _).mono ?_; rintro e w ⟨he, K⟩; subst he; replace H := H.add_all K; clear K))
          refine bodyPost_ret (results_H2 rfl H rfl (by repeat (first | (apply LoadsAt.here; repeat (first | exact GetsAt.nil | apply GetsAt.here | apply GetsAt.there)) | apply LoadsAt.there))) rfl ⟨⟨x.mem, x.gs, x.outs, postM x.pend n⟩, by rw [HO.out]; rfl, ?_, H.bare5 (.cons (by repeat (first | exact Take.head | apply Take.tail)) (.cons (by repeat (first | exact Take.head | apply Take.tail)) (.cons (by repeat (first | exact Take.head | apply Take.tail)) (.cons (by repeat (first | exact Take.head | apply Take.tail)) (.cons (by repeat (first | exact Take.head | apply Take.tail)) .nil))))) rfl rfl⟩
          have h := HX3.out
          have h0 : c.xs = [] := List.eq_nil_of_length_eq_zero hz
          rw [h0] at h
          have h1 : (postedM B.m n).length = 0 := by rw [← HC.out]; exact hz
          unfold bpostM
          rw [if_pos (by rw [HO.out]; rfl), if_pos h1]
          have h2 : x.m = B.m := h
          rw [← h2]
          rfl
        · have hzi : decide ((c.xs.length : Int) = 0) = false := decide_eq_false (by omega)
          have hzi2 : ((c.xs.length : Int) == 0) = false := by rw [beq_eq_false_iff_ne]; omega
          go_wp2_with (first
            | go_skip
            | ((with_reducible refine at_box ?_); first | (refine wpList_box_H rfl rfl H rfl (by first | exact CellsOf.agg | exact CellsOf.int | exact CellsOf.bool | exact CellsOf.slice | exact CellsOf.string | exact CellsOf.pointer | exact CellsOf.func) ?_; clear H; intro b w H))
            | ((with_reducible refine at_alloc ?_); first | (refine wpList_alloc_H rfl rfl H ?_; clear H; intro b w H))
            | ((with_reducible refine at_load ?_); first | (refine wpList_load_H rfl rfl H rfl (by repeat (first | exact LoadAt.here rfl | apply LoadAt.there)) ?_) | (refine wpList_loads_H rfl rfl H rfl (by repeat (first | (apply LoadsAt.here; repeat (first | exact GetsAt.nil | apply GetsAt.here | apply GetsAt.there)) | apply LoadsAt.there)) ?_))
            | ((with_reducible refine at_store ?_); first | (refine wpList_store_H rfl rfl H rfl rfl (by repeat (first | (apply StoreAt.here; (first | exact CellsOf.agg | exact CellsOf.int | exact CellsOf.bool | exact CellsOf.slice | exact CellsOf.string | exact CellsOf.pointer | exact CellsOf.func); (repeat (first | exact SetsAt.nil | apply SetsAt.here | apply SetsAt.there)); exact rfl; exact rfl) | apply StoreAt.there)) ?_; clear H; intro w H)))
          refine bodyPost_ret (results_H2 rfl H rfl (by repeat (first | (apply LoadsAt.here; repeat (first | exact GetsAt.nil | apply GetsAt.here | apply GetsAt.there)) | apply LoadsAt.there))) rfl ⟨x, by rw [HO.out]; rfl, ?_, H.bare5 (.cons (by repeat (first | exact Take.head | apply Take.tail)) (.cons (by repeat (first | exact Take.head | apply Take.tail)) (.cons (by repeat (first | exact Take.head | apply Take.tail)) (.cons (by repeat (first | exact Take.head | apply Take.tail)) (.cons (by repeat (first | exact Take.head | apply Take.tail)) .nil))))) rfl rfl⟩
          have h1 : ¬ (postedM B.m n).length = 0 := by rw [← HC.out]; omega
          unfold bpostM
          rw [if_pos (by rw [HO.out]; rfl), if_neg h1, ← HC.out]
          exact HX3.out
  all_goals
    rw [e1, e2] at ho
    have HO := Lib.hid ho
    clear ho
    have H := Hp.start W0
    go_enter Try.func15, Try.ntmps15
    go_wp2_with (first
      | go_skip
      | ((with_reducible refine at_box ?_); first | (refine wpList_box_H rfl rfl H rfl (by first | exact CellsOf.agg | exact CellsOf.int | exact CellsOf.bool | exact CellsOf.slice | exact CellsOf.string | exact CellsOf.pointer | exact CellsOf.func) ?_; clear H; intro bB w H))
      | ((with_reducible refine at_alloc ?_); first | ((with_reducible refine at_dst 4 ?_); refine wpList_alloc_H rfl rfl H ?_; clear H; intro bR w H) | ((with_reducible refine at_dst 6 ?_); refine wpList_alloc_H rfl rfl H ?_; clear H; intro bO w H) | (refine wpList_alloc_H rfl rfl H ?_; clear H; intro bQ w H))
      | ((with_reducible refine at_load ?_); first | (refine wpList_load_H rfl rfl H rfl (by repeat (first | exact LoadAt.here rfl | apply LoadAt.there)) ?_) | (refine wpList_loads_H rfl rfl H rfl (by repeat (first | (apply LoadsAt.here; repeat (first | exact GetsAt.nil | apply GetsAt.here | apply GetsAt.there)) | apply LoadsAt.there)) ?_))
      | ((with_reducible refine at_store ?_); first | (refine wpList_store_H rfl rfl H rfl rfl (by repeat (first | (apply StoreAt.here; (first | exact CellsOf.agg | exact CellsOf.int | exact CellsOf.bool | exact CellsOf.slice | exact CellsOf.string | exact CellsOf.pointer | exact CellsOf.func); (repeat (first | exact SetsAt.nil | apply SetsAt.here | apply SetsAt.there)); exact rfl; exact rfl) | apply StoreAt.there)) ?_; clear H; intro w H))
      | (go_at_call 28; refine (copyBare_c B _ (R.at_ H) Z).mono ?_; rintro e w ⟨d, rfl, x1, K⟩; have HD := Lib.hid x1; clear x1; have Zd := m_big HD Z; have zdg := Zd.gs; replace H := (H.add_all K); clear K)
      | (go_at_call 29; refine (bareOk_c B _ (R.at_ H) Z).mono ?_; rintro e w ⟨he, K⟩; rw [e1] at he; subst he; replace H := H.add_all K; clear K)
      | (go_at_call 31; refine (within_any _ _ _ _).mono ?_; rintro e w' ⟨he, hw⟩; subst hw; rw [e2] at he; subst he)
      | (go_at_call 17; refine (postedTo_c B n _ (R.at_ H) Z.gs).mono ?_; rintro e w ⟨c, rfl, x1, K⟩; have HC := Lib.hid x1; clear x1; replace H := (H.add_all K); clear K))
    refine bodyPost_ret (results_H2 rfl H rfl (by repeat (first | (apply LoadsAt.here; repeat (first | exact GetsAt.nil | apply GetsAt.here | apply GetsAt.there)) | apply LoadsAt.there))) rfl ⟨d, by rw [HO.out]; rfl, by unfold bpostM; rw [HO.out]; exact HD.out, H.pick (.cons (by repeat (first | exact Take.head | apply Take.tail)) .nil)⟩
set_option linter.unusedSimpArgs false in
set_option linter.unusedVariables false in
set_option maxRecDepth 100000 in
set_option maxHeartbeats 4000000 in
theorem specBarePost_c (B : BV) (n : Int) (W0 : World) (R : BRd W0 B) (Z : BBig B) : Calls Try.prog 16 #[B.val, .int .i64 n] W0 fun e w' => ∃ d : BV, e = .returned (.tuple #[d.val, .bool (bpostOkM B.m n)]) ∧ d.m = bpostM B.m n ∧ Hp W0 w' [.bare d] := by
  have ho : bpostOkM B.m n = (bareOkM B.m && inB n 0 7) := rfl
  cases e1 : bareOkM B.m <;> cases e2 : inB n 0 7
  case true.true =>
    rw [e1, e2] at ho
    have HO := Lib.hid ho
    clear ho
    have H := Hp.start W0
    go_enter Try.func16, Try.ntmps16
    go_wp2_with (first
      | go_skip
      | ((with_reducible refine at_box ?_); first | (refine wpList_box_H rfl rfl H rfl (by first | exact CellsOf.agg | exact CellsOf.int | exact CellsOf.bool | exact CellsOf.slice | exact CellsOf.string | exact CellsOf.pointer | exact CellsOf.func) ?_; clear H; intro bB w H))
      | ((with_reducible refine at_alloc ?_); first | ((with_reducible refine at_dst 4 ?_); refine wpList_alloc_H rfl rfl H ?_; clear H; intro bR w H) | (refine wpList_alloc_H rfl rfl H ?_; clear H; intro bQ w H))
      | ((with_reducible refine at_load ?_); first | (refine wpList_load_H rfl rfl H rfl (by repeat (first | exact LoadAt.here rfl | apply LoadAt.there)) ?_) | (refine wpList_loads_H rfl rfl H rfl (by repeat (first | (apply LoadsAt.here; repeat (first | exact GetsAt.nil | apply GetsAt.here | apply GetsAt.there)) | apply LoadsAt.there)) ?_))
      | ((with_reducible refine at_store ?_); first | (refine wpList_store_H rfl rfl H rfl rfl (by repeat (first | (apply StoreAt.here; (first | exact CellsOf.agg | exact CellsOf.int | exact CellsOf.bool | exact CellsOf.slice | exact CellsOf.string | exact CellsOf.pointer | exact CellsOf.func); (repeat (first | exact SetsAt.nil | apply SetsAt.here | apply SetsAt.there)); exact rfl; exact rfl) | apply StoreAt.there)) ?_; clear H; intro w H))
      | (go_at_call 33; refine (l17Copy_c B _ (R.at_ H) Z).mono ?_; rintro e w ⟨d, rfl, x1, K⟩; have HD := Lib.hid x1; clear x1; have Zd := m_big HD Z; have zdg := Zd.gs; replace H := (H.add_all K); clear K)
      | (go_at_call 34; refine (specBareOk_c d _ (H.brd (b := d) (by repeat (first | exact Take.head | apply Take.tail))) Zd).mono ?_; rintro e w ⟨he, K⟩; rw [HD.out, e1] at he; subst he; replace H := H.add_all K; clear K)
      | (go_at_call 35; refine (in_any _ _ _ _).mono ?_; rintro e w' ⟨he, hw⟩; subst hw; rw [e2] at he; subst he)
      | (go_at_call 22; refine (specPostedTo_c d n _ (H.brd (b := d) (by repeat (first | exact Take.head | apply Take.tail))) zdg).mono ?_; rintro e w ⟨c, rfl, x1, K⟩; rw [HD.out] at x1; have HC := Lib.hid x1; clear x1; replace H := (H.add_all K); clear K))
    have hcl : c.xs.length ≤ 4194304 := by rw [HC.out]; exact Nat.le_trans (idx_len _ _ _) (by have := Z.gs; simpa [BV.m, gsOf] using this)
    go_loopw [7] (fun i wr => ∃ (k : Nat) (x : BV), k ≤ c.xs.length ∧ i = .int .i64 k ∧ Hid (x.m = postTo n B.m (c.xs.take k)) ∧ Hp W0 wr [.bare x, .int c, .box bB 28 (barr x).toList, .box bR 28 [.slice none 0 0, .slice none 0 0, .slice none 0 0, .int .i64 0]]) (fun i _ => c.xs.length - (intOf i).toNat)
    case atStart => exact ⟨0, d, by omega, rfl, Lib.hid (by rw [HD.out]; rfl), H.pick (.cons (by repeat (first | exact Take.head | apply Take.tail)) (.cons (by repeat (first | exact Take.head | apply Take.tail)) (.cons (by repeat (first | exact Take.head | apply Take.tail)) (.cons (by repeat (first | exact Take.head | apply Take.tail)) .nil))))⟩
    case round =>
      clear H HD Zd zdg
      obtain ⟨k, x, hk0, rfl, HX, H⟩ := hrel
      by_cases hk : k < c.xs.length
      · obtain ⟨v, hv⟩ : ∃ v, c.xs[k]? = some v := ⟨_, List.getElem?_eq_getElem hk⟩
        have hvm : v ∈ postedM B.m n := by rw [← HC.out]; exact List.mem_of_getElem? hv
        obtain ⟨j, yy, hj1, hj2, _⟩ := idx_mem hvm
        have hvj : v = (j : Int) := by rw [hj1]; simp
        subst hvj
        have hj : j < x.gs.xs.length := by
          have h1 : j < B.m.guests.length := (List.getElem?_eq_some_iff.1 hj2).1
          have h2 := postTo_len n (c.xs.take k) B.m
          rw [← HX.out] at h2
          have h3 : x.m.guests.length = x.gs.xs.length := by simp [BV.m, gsOf]
          omega
        have HV := Lib.hid hv
        obtain ⟨y, hy⟩ : ∃ y, x.gs.xs[j]? = some y := ⟨_, List.getElem?_eq_getElem hj⟩
        have HY := Lib.hid hy
        clear hv hvm hj1 hj2 hy
        replace H := (H.take (e := .bare x) (by repeat (first | exact Take.head | apply Take.tail))).bparts
        go_wp2_with (first
          | go_skip
          | ((with_reducible refine at_box ?_); first | (refine wpList_box_H rfl rfl H rfl (by first | exact CellsOf.agg | exact CellsOf.int | exact CellsOf.bool | exact CellsOf.slice | exact CellsOf.string | exact CellsOf.pointer | exact CellsOf.func) ?_; clear H; intro b w H))
          | ((with_reducible refine at_alloc ?_); first | (refine wpList_alloc_H rfl rfl H ?_; clear H; intro b w H))
          | ((with_reducible refine at_load ?_); first | (refine wpList_load_rd rfl rfl c (H.rd (s := c) (by repeat (first | exact Take.head | apply Take.tail)) int_len) rfl (j : Int) HV.out rfl ?_) | (refine wpList_load_H rfl rfl H rfl (by repeat (first | exact LoadAt.here rfl | apply LoadAt.there)) ?_) | (refine wpList_loads_H rfl rfl H rfl (by repeat (first | (apply LoadsAt.here; repeat (first | exact GetsAt.nil | apply GetsAt.here | apply GetsAt.there)) | apply LoadsAt.there)) ?_))
          | ((with_reducible refine at_store ?_); first | (refine wpList_store_H rfl rfl H rfl rfl (by repeat (first | (apply StoreAt.here; (first | exact CellsOf.agg | exact CellsOf.int | exact CellsOf.bool | exact CellsOf.slice | exact CellsOf.string | exact CellsOf.pointer | exact CellsOf.func); (repeat (first | exact SetsAt.nil | apply SetsAt.here | apply SetsAt.there)); exact rfl; exact rfl) | apply StoreAt.there)) ?_; clear H; intro w H))
          | ((with_reducible refine at_index ?_); first | (refine wpList_index_n rfl rfl (k := k) c (H.rd (s := c) (by repeat (first | exact Take.head | apply Take.tail)) int_len) rfl rfl rfl hk ?_)))
        refine wp_cut (fun u a' w' => ∃ (_ : Unit), Hid True ∧ Hp W0 w' [.gsl (⟨x.gs.A, x.gs.c, x.gs.xs.set j (⟨y.prog, y.a, y.pc, y.written, y.live, y.ctl, (postM y.pending n), y.exit, y.halted, y.seen⟩ : GV)⟩ : Sl GV), .many En.gst x.gs.xs, .rows x.mem, .many En.int x.mem.xs, .int x.outs, .int c, .box bB 28 (barr x).toList, .box bR 28 [.slice none 0 0, .slice none 0 0, .slice none 0 0, .int .i64 0]] ∧ a' = puts u [(29, .pointer (some ⟨bB, 1, none⟩)), (30, (.slice x.gs.A x.gs.xs.length x.gs.c)), (31, (.slice c.A c.xs.length c.c)), (32, (.int .i64 (k : Int))), (33, (.pointer (some ⟨ablk c.A, aoff c.A + k * 1, none⟩))), (34, (.int .i64 (j : Int))), (35, .pointer (some ⟨bB, 1, none⟩)), (36, (.slice x.gs.A x.gs.xs.length x.gs.c)), (37, (.slice c.A c.xs.length c.c)), (38, (.int .i64 (k : Int))), (39, (.pointer (some ⟨ablk c.A, aoff c.A + k * 1, none⟩))), (40, (.int .i64 (j : Int))), (41, (.pointer (some ⟨ablk x.gs.A, aoff x.gs.A + j * 15, none⟩))), (42, (.pointer (some ⟨ablk x.gs.A, aoff x.gs.A + j * 15 + 8, none⟩))), (43, (.int .i64 y.pending)), (44, (.int .i64 n)), (45, (.tuple #[.int .i64 (postM y.pending n), .bool (postOkM y.pending n)])), (28, (.tuple #[.int .i64 (postM y.pending n), .bool (postOkM y.pending n)])), (46, (.int .i64 (postM y.pending n))), (47, (.bool (postOkM y.pending n))), (48, (.pointer (some ⟨ablk x.gs.A, aoff x.gs.A + j * 15, none⟩))), (49, (.pointer (some ⟨ablk x.gs.A, aoff x.gs.A + j * 15 + 8, none⟩)))]) ?_ ?_
        · refine wp_region_held (S := (fun w' => Rw w' bB 28 (barr x) ∧ Rd icell 1 w' c)) (by kernel_rfl) ?_
          replace H := H.drew
          refine takeH (i := 0) rfl .here (by kernel_rfl) (by kernel_rfl) (by kernel_rfl) (fun _ _ _ h => absurd h.1 (by simp)) (yields_val (v := .pointer (some ⟨bB, 1, none⟩)) rfl (fun _ => by go_simp)) ⟨H.rw_ (by repeat (first | exact Take.head | apply Take.tail)), (H.rd (s := c) (by repeat (first | exact Take.head | apply Take.tail)) int_len)⟩ ?_
          (try simp only [Act.put, List.setIfInBounds_toArray, List.set_cons_succ, List.set_cons_zero])
          refine takeH (i := 1) rfl (.there .here) (by kernel_rfl) (by kernel_rfl) (by kernel_rfl) (fun _ _ _ h => absurd h.1 (by simp)) (yields_load1_R rfl rfl rfl (fun _ hS => hS.1) rfl) ⟨H.rw_ (by repeat (first | exact Take.head | apply Take.tail)), (H.rd (s := c) (by repeat (first | exact Take.head | apply Take.tail)) int_len)⟩ ?_
          (try simp only [Act.put, List.setIfInBounds_toArray, List.set_cons_succ, List.set_cons_zero])
          refine takeH (i := 2) rfl (.there (.there .here)) (by kernel_rfl) (by kernel_rfl) (by kernel_rfl) (fun _ _ _ h => absurd h.1 (by simp)) (yields_val (v := (.slice c.A c.xs.length c.c)) rfl (fun _ => by go_simp)) ⟨H.rw_ (by repeat (first | exact Take.head | apply Take.tail)), (H.rd (s := c) (by repeat (first | exact Take.head | apply Take.tail)) int_len)⟩ ?_
          (try simp only [Act.put, List.setIfInBounds_toArray, List.set_cons_succ, List.set_cons_zero])
          refine takeH (i := 3) rfl (.there (.there (.there .here))) (by kernel_rfl) (by kernel_rfl) (by kernel_rfl) (fun _ _ _ h => absurd h.1 (by simp)) (yields_val (v := (.int .i64 (k : Int))) rfl (fun _ => by go_simp)) ⟨H.rw_ (by repeat (first | exact Take.head | apply Take.tail)), (H.rd (s := c) (by repeat (first | exact Take.head | apply Take.tail)) int_len)⟩ ?_
          (try simp only [Act.put, List.setIfInBounds_toArray, List.set_cons_succ, List.set_cons_zero])
          refine takeH (i := 4) rfl (.there (.there (.there (.there .here)))) (by kernel_rfl) (by kernel_rfl) (by kernel_rfl) (fun _ _ _ h => absurd h.1 (by simp)) (yields_index_n rfl rfl (k := k) c (fun _ hS => hS.2) rfl rfl rfl hk) ⟨H.rw_ (by repeat (first | exact Take.head | apply Take.tail)), (H.rd (s := c) (by repeat (first | exact Take.head | apply Take.tail)) int_len)⟩ ?_
          (try simp only [Act.put, List.setIfInBounds_toArray, List.set_cons_succ, List.set_cons_zero])
          refine takeH (i := 5) rfl (.there (.there (.there (.there (.there .here))))) (by kernel_rfl) (by kernel_rfl) (by kernel_rfl) (fun _ _ _ h => absurd h.1 (by simp)) (yields_load_rd rfl rfl c (fun _ hS => hS.2) rfl (j : Int) HV.out (by first | exact rfl | exact (Nat.add_zero _).symm) rfl) ⟨H.rw_ (by repeat (first | exact Take.head | apply Take.tail)), (H.rd (s := c) (by repeat (first | exact Take.head | apply Take.tail)) int_len)⟩ ?_
          (try simp only [Act.put, List.setIfInBounds_toArray, List.set_cons_succ, List.set_cons_zero])
          refine takeH (i := 6) rfl (.there (.there (.there (.there (.there (.there .here)))))) (by kernel_rfl) (by kernel_rfl) (by kernel_rfl) (fun _ _ _ h => absurd h.1 (by simp)) (yields_val (v := .pointer (some ⟨bB, 1, none⟩)) rfl (fun _ => by go_simp)) ⟨H.rw_ (by repeat (first | exact Take.head | apply Take.tail)), (H.rd (s := c) (by repeat (first | exact Take.head | apply Take.tail)) int_len)⟩ ?_
          (try simp only [Act.put, List.setIfInBounds_toArray, List.set_cons_succ, List.set_cons_zero])
          refine takeH (i := 7) rfl (.there (.there (.there (.there (.there (.there (.there .here))))))) (by kernel_rfl) (by kernel_rfl) (by kernel_rfl) (fun _ _ _ h => absurd h.1 (by simp)) (yields_load1_R rfl rfl rfl (fun _ hS => hS.1) rfl) ⟨H.rw_ (by repeat (first | exact Take.head | apply Take.tail)), (H.rd (s := c) (by repeat (first | exact Take.head | apply Take.tail)) int_len)⟩ ?_
          (try simp only [Act.put, List.setIfInBounds_toArray, List.set_cons_succ, List.set_cons_zero])
          refine takeH (i := 8) rfl (.there (.there (.there (.there (.there (.there (.there (.there .here)))))))) (by kernel_rfl) (by kernel_rfl) (by kernel_rfl) (fun _ _ _ h => absurd h.1 (by simp)) (yields_val (v := (.slice c.A c.xs.length c.c)) rfl (fun _ => by go_simp)) ⟨H.rw_ (by repeat (first | exact Take.head | apply Take.tail)), (H.rd (s := c) (by repeat (first | exact Take.head | apply Take.tail)) int_len)⟩ ?_
          (try simp only [Act.put, List.setIfInBounds_toArray, List.set_cons_succ, List.set_cons_zero])
          refine takeH (i := 9) rfl (.there (.there (.there (.there (.there (.there (.there (.there (.there .here))))))))) (by kernel_rfl) (by kernel_rfl) (by kernel_rfl) (fun _ _ _ h => absurd h.1 (by simp)) (yields_val (v := (.int .i64 (k : Int))) rfl (fun _ => by go_simp)) ⟨H.rw_ (by repeat (first | exact Take.head | apply Take.tail)), (H.rd (s := c) (by repeat (first | exact Take.head | apply Take.tail)) int_len)⟩ ?_
          (try simp only [Act.put, List.setIfInBounds_toArray, List.set_cons_succ, List.set_cons_zero])
          refine takeH (i := 10) rfl (.there (.there (.there (.there (.there (.there (.there (.there (.there (.there .here)))))))))) (by kernel_rfl) (by kernel_rfl) (by kernel_rfl) (fun _ _ _ h => absurd h.1 (by simp)) (yields_index_n rfl rfl (k := k) c (fun _ hS => hS.2) rfl rfl rfl hk) ⟨H.rw_ (by repeat (first | exact Take.head | apply Take.tail)), (H.rd (s := c) (by repeat (first | exact Take.head | apply Take.tail)) int_len)⟩ ?_
          (try simp only [Act.put, List.setIfInBounds_toArray, List.set_cons_succ, List.set_cons_zero])
          refine takeH (i := 11) rfl (.there (.there (.there (.there (.there (.there (.there (.there (.there (.there (.there .here))))))))))) (by kernel_rfl) (by kernel_rfl) (by kernel_rfl) (fun _ _ _ h => absurd h.1 (by simp)) (yields_load_rd rfl rfl c (fun _ hS => hS.2) rfl (j : Int) HV.out (by first | exact rfl | exact (Nat.add_zero _).symm) rfl) ⟨H.rw_ (by repeat (first | exact Take.head | apply Take.tail)), (H.rd (s := c) (by repeat (first | exact Take.head | apply Take.tail)) int_len)⟩ ?_
          (try simp only [Act.put, List.setIfInBounds_toArray, List.set_cons_succ, List.set_cons_zero])
          refine takeH (i := 15) rfl (.there (.there (.there (.there (.there (.there (.there (.there (.there (.there (.there (.there (.there (.there (.there .here))))))))))))))) (by kernel_rfl) (by kernel_rfl) (by kernel_rfl) (fun _ _ _ h => absurd h.1 (by simp)) (yields_val (v := (.int .i64 n)) rfl (fun _ => by go_simp)) ⟨H.rw_ (by repeat (first | exact Take.head | apply Take.tail)), (H.rd (s := c) (by repeat (first | exact Take.head | apply Take.tail)) int_len)⟩ ?_
          (try simp only [Act.put, List.setIfInBounds_toArray, List.set_cons_succ, List.set_cons_zero])
          refine anyH_1 (i := 12) (by kernel_rfl) ?_
          refine wpOp_at rfl (.there (.there (.there (.there (.there (.there (.there (.there (.there (.there (.there (.there .here)))))))))))) rfl ?_
          refine wp_index_n (k := j) rfl x.gs (H.rdgsl (s := x.gs) (by repeat (first | exact Take.head | apply Take.tail))) rfl rfl rfl hj ?_
          refine ⟨⟨H.rw_ (by repeat (first | exact Take.head | apply Take.tail)), (H.rd (s := c) (by repeat (first | exact Take.head | apply Take.tail)) int_len)⟩, ?_⟩
          (try simp only [Act.put, List.setIfInBounds_toArray, List.set_cons_succ, List.set_cons_zero])
          refine takeH (i := 13) rfl (.there (.there (.there (.there (.there (.there (.there (.there (.there (.there (.there (.there (.there .here))))))))))))) (by kernel_rfl) (by kernel_rfl) (by kernel_rfl) (fun _ _ _ h => absurd h.1 (by simp)) (yields_val (v := (.pointer (some ⟨ablk x.gs.A, aoff x.gs.A + j * 15 + 8, none⟩))) rfl (fun _ => by go_simp)) ⟨H.rw_ (by repeat (first | exact Take.head | apply Take.tail)), (H.rd (s := c) (by repeat (first | exact Take.head | apply Take.tail)) int_len)⟩ ?_
          (try simp only [Act.put, List.setIfInBounds_toArray, List.set_cons_succ, List.set_cons_zero])
          refine anyH_1 (i := 14) (by kernel_rfl) ?_
          refine wpOp_at rfl (.there (.there (.there (.there (.there (.there (.there (.there (.there (.there (.there (.there (.there (.there .here)))))))))))))) rfl ?_
          refine wp_load_elP rfl x.gs (H.rdgsl (s := x.gs) (by repeat (first | exact Take.head | apply Take.tail))) rfl y HY.out (j := 8) rfl rfl ?_
          refine ⟨⟨H.rw_ (by repeat (first | exact Take.head | apply Take.tail)), (H.rd (s := c) (by repeat (first | exact Take.head | apply Take.tail)) int_len)⟩, ?_⟩
          (try simp only [Act.put, List.setIfInBounds_toArray, List.set_cons_succ, List.set_cons_zero])
          refine anyH_1 (i := 16) (by kernel_rfl) ?_
          refine wpOp_at rfl (.there (.there (.there (.there (.there (.there (.there (.there (.there (.there (.there (.there (.there (.there (.there (.there .here)))))))))))))))) rfl ?_
          refine wp_call_H Try.f44 rfl rfl Try.func44 (by kernel_rfl) rfl rfl (val_H H (specPostIrq_c y.pending n _)) ?_
          clear H
          rintro _ w ⟨rfl, H⟩
          refine ⟨⟨H.rw_ (by repeat (first | exact Take.head | apply Take.tail)), (H.rd (s := c) (by repeat (first | exact Take.head | apply Take.tail)) int_len)⟩, ?_⟩
          (try simp only [Act.put, List.setIfInBounds_toArray, List.set_cons_succ, List.set_cons_zero])
          refine takeH (i := 17) rfl (.there (.there (.there (.there (.there (.there (.there (.there (.there (.there (.there (.there (.there (.there (.there (.there (.there .here))))))))))))))))) (by kernel_rfl) (by kernel_rfl) (by kernel_rfl) (fun _ _ _ h => absurd h.1 (by simp)) (yields_val (v := (.tuple #[.int .i64 (postM y.pending n), .bool (postOkM y.pending n)])) rfl (fun _ => by go_simp)) ⟨H.rw_ (by repeat (first | exact Take.head | apply Take.tail)), (H.rd (s := c) (by repeat (first | exact Take.head | apply Take.tail)) int_len)⟩ ?_
          (try simp only [Act.put, List.setIfInBounds_toArray, List.set_cons_succ, List.set_cons_zero])
          refine takeH (i := 18) rfl (.there (.there (.there (.there (.there (.there (.there (.there (.there (.there (.there (.there (.there (.there (.there (.there (.there (.there .here)))))))))))))))))) (by kernel_rfl) (by kernel_rfl) (by kernel_rfl) (fun _ _ _ h => absurd h.1 (by simp)) (yields_val (v := (.int .i64 (postM y.pending n))) rfl (fun _ => by go_simp)) ⟨H.rw_ (by repeat (first | exact Take.head | apply Take.tail)), (H.rd (s := c) (by repeat (first | exact Take.head | apply Take.tail)) int_len)⟩ ?_
          (try simp only [Act.put, List.setIfInBounds_toArray, List.set_cons_succ, List.set_cons_zero])
          refine takeH (i := 19) rfl (.there (.there (.there (.there (.there (.there (.there (.there (.there (.there (.there (.there (.there (.there (.there (.there (.there (.there (.there .here))))))))))))))))))) (by kernel_rfl) (by kernel_rfl) (by kernel_rfl) (fun _ _ _ h => absurd h.1 (by simp)) (yields_val (v := (.bool (postOkM y.pending n))) rfl (fun _ => by go_simp)) ⟨H.rw_ (by repeat (first | exact Take.head | apply Take.tail)), (H.rd (s := c) (by repeat (first | exact Take.head | apply Take.tail)) int_len)⟩ ?_
          (try simp only [Act.put, List.setIfInBounds_toArray, List.set_cons_succ, List.set_cons_zero])
          refine anyH_1 (i := 20) (by kernel_rfl) ?_
          refine wpOp_at rfl (.there (.there (.there (.there (.there (.there (.there (.there (.there (.there (.there (.there (.there (.there (.there (.there (.there (.there (.there (.there .here)))))))))))))))))))) rfl ?_
          refine wp_index_n (k := j) rfl x.gs (H.rdgsl (s := x.gs) (by repeat (first | exact Take.head | apply Take.tail))) rfl rfl rfl hj ?_
          refine ⟨⟨H.rw_ (by repeat (first | exact Take.head | apply Take.tail)), (H.rd (s := c) (by repeat (first | exact Take.head | apply Take.tail)) int_len)⟩, ?_⟩
          (try simp only [Act.put, List.setIfInBounds_toArray, List.set_cons_succ, List.set_cons_zero])
          refine takeH (i := 21) rfl (.there (.there (.there (.there (.there (.there (.there (.there (.there (.there (.there (.there (.there (.there (.there (.there (.there (.there (.there (.there (.there .here))))))))))))))))))))) (by kernel_rfl) (by kernel_rfl) (by kernel_rfl) (fun _ _ _ h => absurd h.1 (by simp)) (yields_val (v := (.pointer (some ⟨ablk x.gs.A, aoff x.gs.A + j * 15 + 8, none⟩))) rfl (fun _ => by go_simp)) ⟨H.rw_ (by repeat (first | exact Take.head | apply Take.tail)), (H.rd (s := c) (by repeat (first | exact Take.head | apply Take.tail)) int_len)⟩ ?_
          (try simp only [Act.put, List.setIfInBounds_toArray, List.set_cons_succ, List.set_cons_zero])
          refine anyH_1 (i := 22) (by kernel_rfl) ?_
          refine wpOp_at rfl (.there (.there (.there (.there (.there (.there (.there (.there (.there (.there (.there (.there (.there (.there (.there (.there (.there (.there (.there (.there (.there (.there .here)))))))))))))))))))))) rfl ?_
          refine wp_store_el rfl H x.gs (by repeat (first | exact Take.head | apply Take.tail)) g_len rfl rfl y (⟨y.prog, y.a, y.pc, y.written, y.live, y.ctl, (postM y.pending n), y.exit, y.halted, y.seen⟩ : GV) HY.out rfl (by first | exact CellsOf.agg | exact CellsOf.int | exact CellsOf.bool | exact CellsOf.slice | exact CellsOf.string | exact CellsOf.pointer | exact CellsOf.func) (by repeat (first | exact SetsAt.nil | apply SetsAt.here | apply SetsAt.there)) (by exact rfl) (by exact rfl) ?_
          clear H
          intro w H
          refine ⟨⟨H.rw_ (by repeat (first | exact Take.head | apply Take.tail)), (H.rd (s := c) (by repeat (first | exact Take.head | apply Take.tail)) int_len)⟩, ?_⟩
          (try simp only [Act.put, List.setIfInBounds_toArray, List.set_cons_succ, List.set_cons_zero])
          refine wpAnyH_done (by kernel_rfl) ?_ _
          exact ⟨rfl, (), Lib.hid trivial, H.pick (.cons (by repeat (first | exact Take.head | apply Take.tail)) (.cons (by repeat (first | exact Take.head | apply Take.tail)) (.cons (by repeat (first | exact Take.head | apply Take.tail)) (.cons (by repeat (first | exact Take.head | apply Take.tail)) (.cons (by repeat (first | exact Take.head | apply Take.tail)) (.cons (by repeat (first | exact Take.head | apply Take.tail)) (.cons (by repeat (first | exact Take.head | apply Take.tail)) (.cons (by repeat (first | exact Take.head | apply Take.tail)) .nil)))))))), by first | (simp only [puts_cons, puts_nil, Act.put, List.setIfInBounds_toArray, List.set_cons_succ, List.set_cons_zero]; done) | (simp only [puts_cons, puts_nil, Act.put, List.setIfInBounds_toArray, List.set_cons_succ, List.set_cons_zero]; rfl)⟩
        clear H
        rintro u w ⟨_, _, H, rfl⟩
        simp only [puts_cons, puts_nil, Act.put, List.setIfInBounds_toArray, List.set_cons_succ, List.set_cons_zero]
        replace H := (H.take (e := .many En.gst x.gs.xs) (by repeat (first | exact Take.head | apply Take.tail))).gst_scal HY.out y.a y.pc y.ctl (postM y.pending n) y.exit y.halted
        have eb : barr x = barr (⟨x.mem, (⟨x.gs.A, x.gs.c, x.gs.xs.set j (⟨y.prog, y.a, y.pc, y.written, y.live, y.ctl, (postM y.pending n), y.exit, y.halted, y.seen⟩ : GV)⟩ : Sl GV), x.outs, x.pend⟩ : BV) := by simp [barr]
        rw [eb] at H
        clear eb
        obtain ⟨x2, hx2⟩ : ∃ x2, x2 = (⟨x.mem, (⟨x.gs.A, x.gs.c, x.gs.xs.set j (⟨y.prog, y.a, y.pc, y.written, y.live, y.ctl, (postM y.pending n), y.exit, y.halted, y.seen⟩ : GV)⟩ : Sl GV), x.outs, x.pend⟩ : BV) := ⟨_, rfl⟩
        have HX2 : Hid (x2.m = postTo n B.m (c.xs.take (k + 1))) := by
          refine Lib.hid ?_
          rw [postTo_snoc n B.m HV.out, ← HX.out]
          unfold postAt
          rw [wg_hit HY.out (fun z => { z with pending := postM z.pending n }), hx2]
          simp only [BV.m, gsOf, List.map_set]; rfl
        have H2 : Hp W0 w [.bare x2, .int c, .box bB 28 (barr x2).toList, .box bR 28 [.slice none 0 0, .slice none 0 0, .slice none 0 0, .int .i64 0]] := by
          rw [hx2]
          have h3 : Hp W0 w (.rows x.mem :: .many En.int x.mem.xs :: .gsl (⟨x.gs.A, x.gs.c, x.gs.xs.set j (⟨y.prog, y.a, y.pc, y.written, y.live, y.ctl, (postM y.pending n), y.exit, y.halted, y.seen⟩ : GV)⟩ : Sl GV) :: .many En.gst (⟨x.gs.A, x.gs.c, x.gs.xs.set j (⟨y.prog, y.a, y.pc, y.written, y.live, y.ctl, (postM y.pending n), y.exit, y.halted, y.seen⟩ : GV)⟩ : Sl GV).xs :: .int x.outs :: [.int c, .box bB 28 (barr (⟨x.mem, (⟨x.gs.A, x.gs.c, x.gs.xs.set j (⟨y.prog, y.a, y.pc, y.written, y.live, y.ctl, (postM y.pending n), y.exit, y.halted, y.seen⟩ : GV)⟩ : Sl GV), x.outs, x.pend⟩ : BV)).toList, .box bR 28 [.slice none 0 0, .slice none 0 0, .slice none 0 0, .int .i64 0]]) := H.pick (.cons (by repeat (first | exact Take.head | apply Take.tail)) (.cons (by repeat (first | exact Take.head | apply Take.tail)) (.cons (by repeat (first | exact Take.head | apply Take.tail)) (.cons (by repeat (first | exact Take.head | apply Take.tail)) (.cons (by repeat (first | exact Take.head | apply Take.tail)) (.cons (by repeat (first | exact Take.head | apply Take.tail)) (.cons (by repeat (first | exact Take.head | apply Take.tail)) (.cons (by repeat (first | exact Take.head | apply Take.tail)) .nil))))))))
          exact h3.bare (b := (⟨x.mem, (⟨x.gs.A, x.gs.c, x.gs.xs.set j (⟨y.prog, y.a, y.pc, y.written, y.live, y.ctl, (postM y.pending n), y.exit, y.halted, y.seen⟩ : GV)⟩ : Sl GV), x.outs, x.pend⟩ : BV))
        clear H
        have H := H2
        clear H2 hx2
        go_wp2_with (first
          | go_skip
          | ((with_reducible refine at_box ?_); first | (refine wpList_box_H rfl rfl H rfl (by first | exact CellsOf.agg | exact CellsOf.int | exact CellsOf.bool | exact CellsOf.slice | exact CellsOf.string | exact CellsOf.pointer | exact CellsOf.func) ?_; clear H; intro b w H))
          | ((with_reducible refine at_alloc ?_); first | (refine wpList_alloc_H rfl rfl H ?_; clear H; intro b w H))
          | ((with_reducible refine at_load ?_); first | (refine wpList_load_H rfl rfl H rfl (by repeat (first | exact LoadAt.here rfl | apply LoadAt.there)) ?_) | (refine wpList_loads_H rfl rfl H rfl (by repeat (first | (apply LoadsAt.here; repeat (first | exact GetsAt.nil | apply GetsAt.here | apply GetsAt.there)) | apply LoadsAt.there)) ?_))
          | ((with_reducible refine at_store ?_); first | (refine wpList_store_H rfl rfl H rfl rfl (by repeat (first | (apply StoreAt.here; (first | exact CellsOf.agg | exact CellsOf.int | exact CellsOf.bool | exact CellsOf.slice | exact CellsOf.string | exact CellsOf.pointer | exact CellsOf.func); (repeat (first | exact SetsAt.nil | apply SetsAt.here | apply SetsAt.there)); exact rfl; exact rfl) | apply StoreAt.there)) ?_; clear H; intro w H)))
        go_roundw
        case rel => exact ⟨k + 1, x2, by omega, by go_num, HX2, H.pick (.cons (by repeat (first | exact Take.head | apply Take.tail)) (.cons (by repeat (first | exact Take.head | apply Take.tail)) (.cons (by repeat (first | exact Take.head | apply Take.tail)) (.cons (by repeat (first | exact Take.head | apply Take.tail)) .nil))))⟩
        case measure => simp [intOf]; omega
      · have hke : k = c.xs.length := by omega
        subst hke
        clear hk hk0
        have hx3 := HX.out
        rw [List.take_length] at hx3
        have HX3 := Lib.hid hx3
        clear hx3 HX
        replace H := (H.take (e := .bare x) (by repeat (first | exact Take.head | apply Take.tail))).bparts
        rcases Nat.eq_zero_or_pos c.xs.length with hz | hz
        · have hzi : decide ((c.xs.length : Int) = 0) = true := decide_eq_true (by omega)
          have hzi2 : ((c.xs.length : Int) == 0) = true := by rw [hz]; rfl
          have HP : Hid (x.pend = B.pend) := Lib.hid (by
            have h := HX3.out
            have h0 : c.xs = [] := List.eq_nil_of_length_eq_zero hz
            rw [h0] at h
            exact congrArg MB.pending h)
          go_wp2_with (first
            | go_skip
            | ((with_reducible refine at_box ?_); first | (refine wpList_box_H rfl rfl H rfl (by first | exact CellsOf.agg | exact CellsOf.int | exact CellsOf.bool | exact CellsOf.slice | exact CellsOf.string | exact CellsOf.pointer | exact CellsOf.func) ?_; clear H; intro b w H))
            | ((with_reducible refine at_alloc ?_); first | (refine wpList_alloc_H rfl rfl H ?_; clear H; intro b w H))
            | ((with_reducible refine at_load ?_); first | (refine wpList_load_H rfl rfl H rfl (by repeat (first | exact LoadAt.here rfl | apply LoadAt.there)) ?_) | (refine wpList_loads_H rfl rfl H rfl (by repeat (first | (apply LoadsAt.here; repeat (first | exact GetsAt.nil | apply GetsAt.here | apply GetsAt.there)) | apply LoadsAt.there)) ?_))
            | ((with_reducible refine at_store ?_); first | (refine wpList_store_H rfl rfl H rfl rfl (by repeat (first | (apply StoreAt.here; (first | exact CellsOf.agg | exact CellsOf.int | exact CellsOf.bool | exact CellsOf.slice | exact CellsOf.string | exact CellsOf.pointer | exact CellsOf.func); (repeat (first | exact SetsAt.nil | apply SetsAt.here | apply SetsAt.there)); exact rfl; exact rfl) | apply StoreAt.there)) ?_; clear H; intro w H))
            | (go_at_call 44; refine (specPostIrq_c x.pend n _).mono ?_; rintro e w ⟨he, K⟩; subst he; replace H := H.add_all K; clear K))
          refine bodyPost_ret (results_H2 rfl H rfl (by repeat (first | (apply LoadsAt.here; repeat (first | exact GetsAt.nil | apply GetsAt.here | apply GetsAt.there)) | apply LoadsAt.there))) rfl ⟨⟨x.mem, x.gs, x.outs, postM x.pend n⟩, by rw [HO.out]; rfl, ?_, H.bare5 (.cons (by repeat (first | exact Take.head | apply Take.tail)) (.cons (by repeat (first | exact Take.head | apply Take.tail)) (.cons (by repeat (first | exact Take.head | apply Take.tail)) (.cons (by repeat (first | exact Take.head | apply Take.tail)) (.cons (by repeat (first | exact Take.head | apply Take.tail)) .nil))))) rfl rfl⟩
          have h := HX3.out
          have h0 : c.xs = [] := List.eq_nil_of_length_eq_zero hz
          rw [h0] at h
          have h1 : (postedM B.m n).length = 0 := by rw [← HC.out]; exact hz
          unfold bpostM
          rw [if_pos (by rw [HO.out]; rfl), if_pos h1]
          have h2 : x.m = B.m := h
          rw [← h2]
          rfl
        · have hzi : decide ((c.xs.length : Int) = 0) = false := decide_eq_false (by omega)
          have hzi2 : ((c.xs.length : Int) == 0) = false := by rw [beq_eq_false_iff_ne]; omega
          go_wp2_with (first
            | go_skip
            | ((with_reducible refine at_box ?_); first | (refine wpList_box_H rfl rfl H rfl (by first | exact CellsOf.agg | exact CellsOf.int | exact CellsOf.bool | exact CellsOf.slice | exact CellsOf.string | exact CellsOf.pointer | exact CellsOf.func) ?_; clear H; intro b w H))
            | ((with_reducible refine at_alloc ?_); first | (refine wpList_alloc_H rfl rfl H ?_; clear H; intro b w H))
            | ((with_reducible refine at_load ?_); first | (refine wpList_load_H rfl rfl H rfl (by repeat (first | exact LoadAt.here rfl | apply LoadAt.there)) ?_) | (refine wpList_loads_H rfl rfl H rfl (by repeat (first | (apply LoadsAt.here; repeat (first | exact GetsAt.nil | apply GetsAt.here | apply GetsAt.there)) | apply LoadsAt.there)) ?_))
            | ((with_reducible refine at_store ?_); first | (refine wpList_store_H rfl rfl H rfl rfl (by repeat (first | (apply StoreAt.here; (first | exact CellsOf.agg | exact CellsOf.int | exact CellsOf.bool | exact CellsOf.slice | exact CellsOf.string | exact CellsOf.pointer | exact CellsOf.func); (repeat (first | exact SetsAt.nil | apply SetsAt.here | apply SetsAt.there)); exact rfl; exact rfl) | apply StoreAt.there)) ?_; clear H; intro w H)))
          refine bodyPost_ret (results_H2 rfl H rfl (by repeat (first | (apply LoadsAt.here; repeat (first | exact GetsAt.nil | apply GetsAt.here | apply GetsAt.there)) | apply LoadsAt.there))) rfl ⟨x, by rw [HO.out]; rfl, ?_, H.bare5 (.cons (by repeat (first | exact Take.head | apply Take.tail)) (.cons (by repeat (first | exact Take.head | apply Take.tail)) (.cons (by repeat (first | exact Take.head | apply Take.tail)) (.cons (by repeat (first | exact Take.head | apply Take.tail)) (.cons (by repeat (first | exact Take.head | apply Take.tail)) .nil))))) rfl rfl⟩
          have h1 : ¬ (postedM B.m n).length = 0 := by rw [← HC.out]; omega
          unfold bpostM
          rw [if_pos (by rw [HO.out]; rfl), if_neg h1, ← HC.out]
          exact HX3.out
  all_goals
    rw [e1, e2] at ho
    have HO := Lib.hid ho
    clear ho
    have H := Hp.start W0
    go_enter Try.func16, Try.ntmps16
    go_wp2_with (first
      | go_skip
      | ((with_reducible refine at_box ?_); first | (refine wpList_box_H rfl rfl H rfl (by first | exact CellsOf.agg | exact CellsOf.int | exact CellsOf.bool | exact CellsOf.slice | exact CellsOf.string | exact CellsOf.pointer | exact CellsOf.func) ?_; clear H; intro bB w H))
      | ((with_reducible refine at_alloc ?_); first | ((with_reducible refine at_dst 4 ?_); refine wpList_alloc_H rfl rfl H ?_; clear H; intro bR w H) | (refine wpList_alloc_H rfl rfl H ?_; clear H; intro bQ w H))
      | ((with_reducible refine at_load ?_); first | (refine wpList_load_H rfl rfl H rfl (by repeat (first | exact LoadAt.here rfl | apply LoadAt.there)) ?_) | (refine wpList_loads_H rfl rfl H rfl (by repeat (first | (apply LoadsAt.here; repeat (first | exact GetsAt.nil | apply GetsAt.here | apply GetsAt.there)) | apply LoadsAt.there)) ?_))
      | ((with_reducible refine at_store ?_); first | (refine wpList_store_H rfl rfl H rfl rfl (by repeat (first | (apply StoreAt.here; (first | exact CellsOf.agg | exact CellsOf.int | exact CellsOf.bool | exact CellsOf.slice | exact CellsOf.string | exact CellsOf.pointer | exact CellsOf.func); (repeat (first | exact SetsAt.nil | apply SetsAt.here | apply SetsAt.there)); exact rfl; exact rfl) | apply StoreAt.there)) ?_; clear H; intro w H))
      | (go_at_call 33; refine (l17Copy_c B _ (R.at_ H) Z).mono ?_; rintro e w ⟨d, rfl, x1, K⟩; have HD := Lib.hid x1; clear x1; have Zd := m_big HD Z; have zdg := Zd.gs; replace H := (H.add_all K); clear K)
      | (go_at_call 34; refine (specBareOk_c d _ (H.brd (b := d) (by repeat (first | exact Take.head | apply Take.tail))) Zd).mono ?_; rintro e w ⟨he, K⟩; rw [HD.out, e1] at he; subst he; replace H := H.add_all K; clear K)
      | (go_at_call 35; refine (in_any _ _ _ _).mono ?_; rintro e w' ⟨he, hw⟩; subst hw; rw [e2] at he; subst he)
      | (go_at_call 22; refine (specPostedTo_c d n _ (H.brd (b := d) (by repeat (first | exact Take.head | apply Take.tail))) zdg).mono ?_; rintro e w ⟨c, rfl, x1, K⟩; rw [HD.out] at x1; have HC := Lib.hid x1; clear x1; replace H := (H.add_all K); clear K))
    refine bodyPost_ret (results_H2 rfl H rfl (by repeat (first | (apply LoadsAt.here; repeat (first | exact GetsAt.nil | apply GetsAt.here | apply GetsAt.there)) | apply LoadsAt.there))) rfl ⟨d, by rw [HO.out]; rfl, by unfold bpostM; rw [HO.out]; exact HD.out, H.pick (.cons (by repeat (first | exact Take.head | apply Take.tail)) .nil)⟩
set_option linter.unusedSimpArgs false in
set_option linter.unusedVariables false in
set_option maxRecDepth 100000 in
set_option maxHeartbeats 4000000 in
theorem bareAck_c (B : BV) (W0 : World) (R : BRd W0 B) (Z : BBig B) : Calls Try.prog 19 #[B.val] W0 fun e w' => ∃ d : BV, e = .returned (.tuple #[d.val, .int .i64 (ackN B.m), .bool (ackOkM B.m)]) ∧ d.m = ackM B.m ∧ Hp W0 w' [.bare d] := by
  obtain ⟨tq, htq⟩ : ∃ t, tookI B.pend = t := ⟨_, rfl⟩
  obtain ⟨tp, htp⟩ : ∃ t, topI B.pend = t := ⟨_, rfl⟩
  have TQ := Lib.hid htq
  have TR := Lib.hid htp
  obtain ⟨td, htd⟩ : ∃ td, decide (0 ≤ tp) = td := ⟨_, rfl⟩
  have TD := Lib.hid htd
  have hn : td = false → tp = -1 ∧ tq = B.pend := by
    intro h
    rw [h] at htd
    have h2 := top_neg (p := B.pend) (by rw [htp]; exact of_decide_eq_false htd)
    rw [htq, htp] at h2
    exact h2
  have ho : ackOkM B.m = (bareOkM B.m && td) := by unfold ackOkM; rw [← htd, ← htp]; rfl
  have hN : ackN B.m = if ackOkM B.m then tp else -1 := by unfold ackN; rw [← htp]; rfl
  have hM : ackM B.m = if ackOkM B.m then { B.m with pending := tq } else B.m := by unfold ackM; rw [← htq]; rfl
  clear htq htp htd
  cases e1 : bareOkM B.m <;> cases td
  all_goals
    rw [e1] at ho
    rw [ho] at hN hM
    try (obtain ⟨hn1, hn2⟩ := hn rfl; subst hn1; subst hn2)
    try clear hn
    have HO := Lib.hid ho
    have HN := Lib.hid hN
    have HM := Lib.hid hM
    clear ho hN hM
    have H := Hp.start W0
    go_enter Try.func19, Try.ntmps19
    go_wp2_with (first
      | go_skip
      | ((with_reducible refine at_box ?_); first | (refine wpList_box_H rfl rfl H rfl (by first | exact CellsOf.agg | exact CellsOf.int | exact CellsOf.bool | exact CellsOf.slice | exact CellsOf.string | exact CellsOf.pointer | exact CellsOf.func) ?_; clear H; intro bB w H))
      | ((with_reducible refine at_alloc ?_); first | ((with_reducible refine at_dst 2 ?_); refine wpList_alloc_H rfl rfl H ?_; clear H; intro bR w H) | ((with_reducible refine at_dst 5 ?_); refine wpList_alloc_H rfl rfl H ?_; clear H; intro bO w H) | (refine wpList_alloc_H rfl rfl H ?_; clear H; intro bQ w H))
      | ((with_reducible refine at_load ?_); first | (refine wpList_load_H rfl rfl H rfl (by repeat (first | exact LoadAt.here rfl | apply LoadAt.there)) ?_) | (refine wpList_loads_H rfl rfl H rfl (by repeat (first | (apply LoadsAt.here; repeat (first | exact GetsAt.nil | apply GetsAt.here | apply GetsAt.there)) | apply LoadsAt.there)) ?_))
      | ((with_reducible refine at_store ?_); first | (refine wpList_store_H rfl rfl H rfl rfl (by repeat (first | (apply StoreAt.here; (first | exact CellsOf.agg | exact CellsOf.int | exact CellsOf.bool | exact CellsOf.slice | exact CellsOf.string | exact CellsOf.pointer | exact CellsOf.func); (repeat (first | exact SetsAt.nil | apply SetsAt.here | apply SetsAt.there)); exact rfl; exact rfl) | apply StoreAt.there)) ?_; clear H; intro w H))
      | (go_at_call 28; refine (copyBare_c B _ (R.at_ H) Z).mono ?_; rintro e w ⟨d, rfl, x1, K⟩; have HD := Lib.hid x1; clear x1; have Zd := m_big HD Z; have HP : Hid (d.pend = B.pend) := Lib.hid (congrArg MB.pending HD.out); replace H := (H.add_all K); clear K)
      | (go_at_call 29; refine (bareOk_c B _ (R.at_ H) Z).mono ?_; rintro e w ⟨he, K⟩; rw [e1] at he; subst he; replace H := H.add_all K; clear K)
      | (go_at_call 46; refine (takeIrq_any B.pend _).mono ?_; rintro e w' ⟨he, hw⟩; subst hw; rw [TQ.out, TR.out, TD.out] at he; subst he))
    replace H := (H.take (e := .bare d) (by repeat (first | exact Take.head | apply Take.tail))).bparts
    first
      | (refine bodyPost_ret (res_ctt rfl H rfl (by repeat (first | (apply LoadsAt.here; repeat (first | exact GetsAt.nil | apply GetsAt.here | apply GetsAt.there)) | apply LoadsAt.there))) rfl ⟨d, by rw [HO.out, HN.out]; rfl, by rw [HM.out]; exact HD.out, H.bare5 (.cons (by repeat (first | exact Take.head | apply Take.tail)) (.cons (by repeat (first | exact Take.head | apply Take.tail)) (.cons (by repeat (first | exact Take.head | apply Take.tail)) (.cons (by repeat (first | exact Take.head | apply Take.tail)) (.cons (by repeat (first | exact Take.head | apply Take.tail)) .nil))))) rfl rfl⟩; done)
      | (refine bodyPost_ret (res_ctt rfl H rfl (by repeat (first | (apply LoadsAt.here; repeat (first | exact GetsAt.nil | apply GetsAt.here | apply GetsAt.there)) | apply LoadsAt.there))) rfl ⟨⟨d.mem, d.gs, d.outs, tq⟩, by rw [HO.out, HN.out]; rfl, ?_, H.bare5 (.cons (by repeat (first | exact Take.head | apply Take.tail)) (.cons (by repeat (first | exact Take.head | apply Take.tail)) (.cons (by repeat (first | exact Take.head | apply Take.tail)) (.cons (by repeat (first | exact Take.head | apply Take.tail)) (.cons (by repeat (first | exact Take.head | apply Take.tail)) .nil))))) rfl rfl⟩; rw [HM.out, ← HD.out]; rfl)
      | (refine bodyPost_ret (res_ctt rfl H rfl (by repeat (first | (apply LoadsAt.here; repeat (first | exact GetsAt.nil | apply GetsAt.here | apply GetsAt.there)) | apply LoadsAt.there))) rfl ⟨⟨d.mem, d.gs, d.outs, B.pend⟩, by rw [HO.out, HN.out]; rfl, ?_, H.bare5 (.cons (by repeat (first | exact Take.head | apply Take.tail)) (.cons (by repeat (first | exact Take.head | apply Take.tail)) (.cons (by repeat (first | exact Take.head | apply Take.tail)) (.cons (by repeat (first | exact Take.head | apply Take.tail)) (.cons (by repeat (first | exact Take.head | apply Take.tail)) .nil))))) rfl rfl⟩; rw [HM.out, ← HP.out, ← HD.out]; rfl)
set_option linter.unusedSimpArgs false in
set_option linter.unusedVariables false in
set_option maxRecDepth 100000 in
set_option maxHeartbeats 4000000 in
theorem specBareAck_c (B : BV) (W0 : World) (R : BRd W0 B) (Z : BBig B) : Calls Try.prog 20 #[B.val] W0 fun e w' => ∃ d : BV, e = .returned (.tuple #[d.val, .int .i64 (ackN B.m), .bool (ackOkM B.m)]) ∧ d.m = ackM B.m ∧ Hp W0 w' [.bare d] := by
  obtain ⟨tq, htq⟩ : ∃ t, tookI B.pend = t := ⟨_, rfl⟩
  obtain ⟨tp, htp⟩ : ∃ t, topI B.pend = t := ⟨_, rfl⟩
  have TQ := Lib.hid htq
  have TR := Lib.hid htp
  obtain ⟨td, htd⟩ : ∃ td, decide (0 ≤ tp) = td := ⟨_, rfl⟩
  have TD := Lib.hid htd
  have hn : td = false → tp = -1 ∧ tq = B.pend := by
    intro h
    rw [h] at htd
    have h2 := top_neg (p := B.pend) (by rw [htp]; exact of_decide_eq_false htd)
    rw [htq, htp] at h2
    exact h2
  have ho : ackOkM B.m = (bareOkM B.m && td) := by unfold ackOkM; rw [← htd, ← htp]; rfl
  have hN : ackN B.m = if ackOkM B.m then tp else -1 := by unfold ackN; rw [← htp]; rfl
  have hM : ackM B.m = if ackOkM B.m then { B.m with pending := tq } else B.m := by unfold ackM; rw [← htq]; rfl
  clear htq htp htd
  cases e1 : bareOkM B.m <;> cases td
  all_goals
    rw [e1] at ho
    rw [ho] at hN hM
    try (obtain ⟨hn1, hn2⟩ := hn rfl; subst hn1; subst hn2)
    try clear hn
    have HO := Lib.hid ho
    have HN := Lib.hid hN
    have HM := Lib.hid hM
    clear ho hN hM
    have H := Hp.start W0
    go_enter Try.func20, Try.ntmps20
    go_wp2_with (first
      | go_skip
      | ((with_reducible refine at_box ?_); first | (refine wpList_box_H rfl rfl H rfl (by first | exact CellsOf.agg | exact CellsOf.int | exact CellsOf.bool | exact CellsOf.slice | exact CellsOf.string | exact CellsOf.pointer | exact CellsOf.func) ?_; clear H; intro bB w H))
      | ((with_reducible refine at_alloc ?_); first | ((with_reducible refine at_dst 2 ?_); refine wpList_alloc_H rfl rfl H ?_; clear H; intro bR w H) | (refine wpList_alloc_H rfl rfl H ?_; clear H; intro bQ w H))
      | ((with_reducible refine at_load ?_); first | (refine wpList_load_H rfl rfl H rfl (by repeat (first | exact LoadAt.here rfl | apply LoadAt.there)) ?_) | (refine wpList_loads_H rfl rfl H rfl (by repeat (first | (apply LoadsAt.here; repeat (first | exact GetsAt.nil | apply GetsAt.here | apply GetsAt.there)) | apply LoadsAt.there)) ?_))
      | ((with_reducible refine at_store ?_); first | (refine wpList_store_H rfl rfl H rfl rfl (by repeat (first | (apply StoreAt.here; (first | exact CellsOf.agg | exact CellsOf.int | exact CellsOf.bool | exact CellsOf.slice | exact CellsOf.string | exact CellsOf.pointer | exact CellsOf.func); (repeat (first | exact SetsAt.nil | apply SetsAt.here | apply SetsAt.there)); exact rfl; exact rfl) | apply StoreAt.there)) ?_; clear H; intro w H))
      | (go_at_call 33; refine (l17Copy_c B _ (R.at_ H) Z).mono ?_; rintro e w ⟨d, rfl, x1, K⟩; have HD := Lib.hid x1; clear x1; have Zd := m_big HD Z; have HP : Hid (d.pend = B.pend) := Lib.hid (congrArg MB.pending HD.out); replace H := (H.add_all K); clear K)
      | (go_at_call 34; refine (specBareOk_c d _ (H.brd (b := d) (by repeat (first | exact Take.head | apply Take.tail))) Zd).mono ?_; rintro e w ⟨he, K⟩; rw [HD.out, e1] at he; subst he; replace H := H.add_all K; clear K)
      | (go_at_call 47; refine (specTake_any d.pend _).mono ?_; rintro e w' ⟨he, hw⟩; subst hw; rw [HP.out, TQ.out, TR.out, TD.out] at he; subst he))
    replace H := (H.take (e := .bare d) (by repeat (first | exact Take.head | apply Take.tail))).bparts
    first
      | (refine bodyPost_ret (res_ctt rfl H rfl (by repeat (first | (apply LoadsAt.here; repeat (first | exact GetsAt.nil | apply GetsAt.here | apply GetsAt.there)) | apply LoadsAt.there))) rfl ⟨d, by rw [HO.out, HN.out]; rfl, by rw [HM.out]; exact HD.out, H.bare5 (.cons (by repeat (first | exact Take.head | apply Take.tail)) (.cons (by repeat (first | exact Take.head | apply Take.tail)) (.cons (by repeat (first | exact Take.head | apply Take.tail)) (.cons (by repeat (first | exact Take.head | apply Take.tail)) (.cons (by repeat (first | exact Take.head | apply Take.tail)) .nil))))) rfl rfl⟩; done)
      | (refine bodyPost_ret (res_ctt rfl H rfl (by repeat (first | (apply LoadsAt.here; repeat (first | exact GetsAt.nil | apply GetsAt.here | apply GetsAt.there)) | apply LoadsAt.there))) rfl ⟨⟨d.mem, d.gs, d.outs, tq⟩, by rw [HO.out, HN.out]; rfl, ?_, H.bare5 (.cons (by repeat (first | exact Take.head | apply Take.tail)) (.cons (by repeat (first | exact Take.head | apply Take.tail)) (.cons (by repeat (first | exact Take.head | apply Take.tail)) (.cons (by repeat (first | exact Take.head | apply Take.tail)) (.cons (by repeat (first | exact Take.head | apply Take.tail)) .nil))))) rfl rfl⟩; rw [HM.out, ← HD.out]; rfl)
      | (refine bodyPost_ret (res_ctt rfl H rfl (by repeat (first | (apply LoadsAt.here; repeat (first | exact GetsAt.nil | apply GetsAt.here | apply GetsAt.there)) | apply LoadsAt.there))) rfl ⟨⟨d.mem, d.gs, d.outs, B.pend⟩, by rw [HO.out, HN.out]; rfl, ?_, H.bare5 (.cons (by repeat (first | exact Take.head | apply Take.tail)) (.cons (by repeat (first | exact Take.head | apply Take.tail)) (.cons (by repeat (first | exact Take.head | apply Take.tail)) (.cons (by repeat (first | exact Take.head | apply Take.tail)) (.cons (by repeat (first | exact Take.head | apply Take.tail)) .nil))))) rfl rfl⟩; rw [HM.out, ← HP.out, ← HD.out]; rfl)
end Go.Proofs.Ytaafnenmdombiaa
