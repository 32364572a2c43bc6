/- The laws' own marks on slices of guests. No condition but that the argument is the call's own. -/
import Derived.Test.YthpoieoaaikpmaaGreatBk
import Derived.Test.YthpoieoaaikpmaaGreatGd
namespace Go.Proofs.YthpoieoaaikpmaaGreat
set_option linter.unusedSimpArgs false
set_option linter.unusedVariables false
open Go.RowKit
def GV.put (y : GV) (j : Nat) (v : Value) : GV :=
  match j, v with
  | 1, .int _ n => { y with a := n }
  | 2, .int _ n => { y with pc := n }
  | 5, .int _ n => { y with ctl := { y.ctl with traps := n } }
  | 6, .int _ n => { y with ctl := { y.ctl with post := n } }
  | 7, .bool b => { y with ctl := { y.ctl with opn := b } }
  | 8, .int _ n => { y with pending := n }
  | 9, .int _ n => { y with exit := { y.exit with kind := n } }
  | 10, .int _ n => { y with exit := { y.exit with page := n } }
  | 11, .bool b => { y with exit := { y.exit with write := b } }
  | 12, .int _ n => { y with exit := { y.exit with n := n } }
  | 13, .bool b => { y with halted := b }
  | _, _ => y
theorem put_1 (y : GV) (k : IntKind) (n : Int) : GV.put y 1 (.int k n) = { y with a := n } := rfl
theorem put_2 (y : GV) (k : IntKind) (n : Int) : GV.put y 2 (.int k n) = { y with pc := n } := rfl
theorem put_5 (y : GV) (k : IntKind) (n : Int) : GV.put y 5 (.int k n) = { y with ctl := { y.ctl with traps := n } } := rfl
theorem put_6 (y : GV) (k : IntKind) (n : Int) : GV.put y 6 (.int k n) = { y with ctl := { y.ctl with post := n } } := rfl
theorem put_8 (y : GV) (k : IntKind) (n : Int) : GV.put y 8 (.int k n) = { y with pending := n } := rfl
theorem put_9 (y : GV) (k : IntKind) (n : Int) : GV.put y 9 (.int k n) = { y with exit := { y.exit with kind := n } } := rfl
theorem put_10 (y : GV) (k : IntKind) (n : Int) : GV.put y 10 (.int k n) = { y with exit := { y.exit with page := n } } := rfl
theorem put_12 (y : GV) (k : IntKind) (n : Int) : GV.put y 12 (.int k n) = { y with exit := { y.exit with n := n } } := rfl
theorem put_7 (y : GV) (b : Bool) : GV.put y 7 (.bool b) = { y with ctl := { y.ctl with opn := b } } := rfl
theorem put_11 (y : GV) (b : Bool) : GV.put y 11 (.bool b) = { y with exit := { y.exit with write := b } } := rfl
theorem put_13 (y : GV) (b : Bool) : GV.put y 13 (.bool b) = { y with halted := b } := rfl
theorem j_6 (n : Nat) : n + 5 + 1 = n + 6 := rfl
theorem j_7 (n : Nat) : n + 5 + 2 = n + 7 := rfl
theorem j_10 (n : Nat) : n + 9 + 1 = n + 10 := rfl
theorem j_11 (n : Nat) : n + 9 + 2 = n + 11 := rfl
theorem j_12 (n : Nat) : n + 9 + 3 = n + 12 := rfl
def b3 (x : Int) : Bool := x % 3 == 0
def wG (y : GV) : Nat := 2 * y.prog.xs.length + 2 * y.written.xs.length + 2 * y.live.xs.length + y.seen.xs.length + 11
def mkG (v : Int) (y : GV) : GV where
  prog := ⟨y.prog.A, y.prog.c, marksIns v y.prog.xs.length⟩
  a := v + 2 * (y.prog.xs.length : Int)
  pc := v + 2 * (y.prog.xs.length : Int) + 1
  written := ⟨y.written.A, y.written.c, marksSlot (v + 2 * (y.prog.xs.length : Int) + 1 + 1) y.written.xs.length⟩
  live := ⟨y.live.A, y.live.c, marksSlot (v + 2 * (y.prog.xs.length : Int) + 1 + 1 + 2 * (y.written.xs.length : Int)) y.live.xs.length⟩
  ctl := ⟨(v + 2 * (y.prog.xs.length : Int) + 1 + 1 + 2 * (y.written.xs.length : Int) + 2 * (y.live.xs.length : Int)), (v + 2 * (y.prog.xs.length : Int) + 1 + 1 + 2 * (y.written.xs.length : Int) + 2 * (y.live.xs.length : Int) + 1), b3 (v + 2 * (y.prog.xs.length : Int) + 1 + 1 + 2 * (y.written.xs.length : Int) + 2 * (y.live.xs.length : Int) + 1 + 1)⟩
  pending := (v + 2 * (y.prog.xs.length : Int) + 1 + 1 + 2 * (y.written.xs.length : Int) + 2 * (y.live.xs.length : Int) + 1 + 1 + 1)
  exit := ⟨(v + 2 * (y.prog.xs.length : Int) + 1 + 1 + 2 * (y.written.xs.length : Int) + 2 * (y.live.xs.length : Int) + 1 + 1 + 1 + 1), (v + 2 * (y.prog.xs.length : Int) + 1 + 1 + 2 * (y.written.xs.length : Int) + 2 * (y.live.xs.length : Int) + 1 + 1 + 1 + 1 + 1), b3 (v + 2 * (y.prog.xs.length : Int) + 1 + 1 + 2 * (y.written.xs.length : Int) + 2 * (y.live.xs.length : Int) + 1 + 1 + 1 + 1 + 1 + 1), (v + 2 * (y.prog.xs.length : Int) + 1 + 1 + 2 * (y.written.xs.length : Int) + 2 * (y.live.xs.length : Int) + 1 + 1 + 1 + 1 + 1 + 1 + 1)⟩
  halted := b3 (v + 2 * (y.prog.xs.length : Int) + 1 + 1 + 2 * (y.written.xs.length : Int) + 2 * (y.live.xs.length : Int) + 1 + 1 + 1 + 1 + 1 + 1 + 1 + 1)
  seen := ⟨y.seen.A, y.seen.c, marksInt (v + 2 * (y.prog.xs.length : Int) + 1 + 1 + 2 * (y.written.xs.length : Int) + 2 * (y.live.xs.length : Int) + 1 + 1 + 1 + 1 + 1 + 1 + 1 + 1 + 1) y.seen.xs.length⟩
def mksG (v : Int) : List GV → List GV
  | [] => []
  | y :: l => mkG v y :: mksG (v + wG y) l
theorem mksG_len (v : Int) (l : List GV) : (mksG v l).length = l.length := by
  induction l generalizing v with
  | nil => rfl
  | cons y l ih => simp [mksG, ih]
theorem mksG_append (v : Int) (l l' : List GV) : mksG v (l ++ l') = mksG v l ++ mksG (v + ((l.map wG).sum : Nat)) l' := by
  induction l generalizing v with
  | nil => simp [mksG]
  | cons y l ih => simp only [List.cons_append, mksG, ih, List.map_cons, List.sum_cons]; congr 3; push_cast; omega
theorem mksG_snoc {v u : Int} {l : List GV} {k : Nat} {y : GV} (hy : l[k]? = some y) (hu : u = v + (((l.take k).map wG).sum : Nat)) : mksG v (l.take (k + 1)) = mksG v (l.take k) ++ [mkG u y] := by
  rw [List.take_add_one, hy, Option.toList_some, mksG_append, hu]; rfl
theorem mksG_get {v u : Int} {l : List GV} {k : Nat} {y : GV} (hy : l[k]? = some y) (hu : u = v + (((l.take k).map wG).sum : Nat)) : (mksG v l)[k]? = some (mkG u y) := by
  obtain ⟨hk, _⟩ := List.getElem?_eq_some_iff.1 hy
  have h1 : l = l.take (k + 1) ++ l.drop (k + 1) := (List.take_append_drop _ _).symm
  rw [h1, mksG_append, mksG_snoc hy hu, List.append_assoc, List.getElem?_append_right (by rw [mksG_len, List.length_take]; omega), mksG_len, List.length_take, Nat.min_eq_left (by omega), Nat.sub_self]; rfl
/-- A field of an element has been written: the slice anew. -/
theorem stage {w0 w : World} {L' : List En} {A : Option Addr} {c k n : Nat} {zs P D : List GV} {y y' : GV} {G : Prop} (H : Hp w0 w (.gsl ⟨A, c, zs.set k y'⟩ :: L')) (HE : Hid (zs = P ++ y :: D)) (HP : Hid (P.length = k)) (HN : Hid (zs.length = n))
    (h : ∀ zs, Hid (zs = P ++ y' :: D) → Hid (zs.length = n) → Hid (zs[k]? = some y') → Hp w0 w (.gsl ⟨A, c, zs⟩ :: L') → G) : G := by
  have e : zs.set k y' = P ++ y' :: D := by rw [HE.out]; have := HP.out; subst this; simp
  refine h _ e (by show (zs.set k y').length = n; simpa using HN.out) (by show (zs.set k y')[k]? = some y'; rw [e]; have := HP.out; subst this; simp) H
section
variable {P : Program} {ops : Array Oper} {rest : List Oper} {o : Oper} {a : Act} {w0 w : World} {L L' : List En} {Q : Go.Exit → Act → World → Prop} {α : Type} {enc : α → List Value} {sz e : Nat}
theorem wpList_store_g {e : Nat} (hgd : Region.wanted o (yielded ops a.tmps) = true) {ty : TypeId} {x y0 : Operand} (ho : o.op = .store ty x y0) (H : Hp w0 w L) (s : Sl GV) (tk : Take L (.sl GV.cells 15 e s) L') {k j : Nat}
    {q : Nat} (hx : a.eval x = .pointer (some ⟨ablk s.A, q, none⟩)) {v : Value} (hy : a.eval y0 = v) {n : Nat} [hN : TyN P ty n] (y : GV) (hk : s.xs[k]? = some y) (hq : q = aoff s.A + k * 15 + j) {u : Value} {l' : List Value} (hv : CellsOf v [u]) (hS : SetsAt (GV.cells y) j [u] l') (he : GV.cells (GV.put y j u) = l') (hn : [u].length = n) (h1 : [u].all Value.oneCell' = true)
    (h : ∀ w', Hp w0 w' (.sl GV.cells 15 e { s with xs := s.xs.set k (GV.put y j u) } :: L') → wpList P ops Q rest (a.put o.dst undef) w') : wpList P ops Q (o :: rest) a w := by
  subst he
  exact wpList_store_el hgd ho H s tk g_len hx hy y _ hk hv hS hq hn h1 h
theorem wpList_load_el (hgd : Region.wanted o (yielded ops a.tmps) = true) {ty : TypeId} {x : Operand} (ho : o.op = .load ty x) (s : Sl α) (hs : Rd enc sz w s) {q : Nat} (hx : a.eval x = .pointer (some ⟨ablk s.A, q, none⟩)) [hS : TyS P ty] {k : Nat} (y : α) (hk : s.xs[k]? = some y) (j : Nat) {v : Value} (hv : (enc y)[j]? = some v) (hq : q = aoff s.A + k * sz + j)
    (h : wpList P ops Q rest (a.put o.dst v) w) : wpList P ops Q (o :: rest) a w := by
  subst hq
  exact wp_of_run hgd ho (by rw [hx]; exact run_load_rd hs hS hk hv) h
end
set_option linter.unusedSimpArgs false in
set_option linter.unusedVariables false in
set_option maxRecDepth 100000 in
set_option maxHeartbeats 4000000 in
theorem markGS_H (s : Sl GV) (k0 : Int) {W0 w : World} {L L1 L2 : List En} (H : Hp W0 w L) (t1 : Take L (.gsl s) L1) (t2 : Take L1 (.many En.gst s.xs) L2) (Z : s.xs.length ≤ 4194304) (Zs : (s.xs.map wG).sum ≤ 100000000) (ZG : ∀ g ∈ s.xs, GBig g) (h0 : 0 ≤ k0) (h1 : k0 ≤ 1000000000) :
    Calls Tryz.prog 74 #[.slice s.A s.xs.length s.c, .int .i64 k0] w fun e w' => e = .returned (.int .i64 (k0 + ((s.xs.map wG).sum : Nat))) ∧ Hp W0 w' (.gsl { s with xs := mksG k0 s.xs } :: .many En.gst (mksG k0 s.xs) :: L2) := by
  replace H := (H.take t1).take (.tail t2)
  clear t1 t2
  go_enter Tryz.func74, Tryz.ntmps74
  go_wp2
  go_loopw [1, 5] (fun kv i wr => ∃ (k : Nat) (v : Int), k ≤ s.xs.length ∧ i = .int .i64 k ∧ kv = .int .i64 v ∧ v = k0 + (((s.xs.take k).map wG).sum : Nat) ∧ Hp W0 wr (.many En.gst (mksG k0 (s.xs.take k) ++ s.xs.drop k) :: .gsl { s with xs := mksG k0 (s.xs.take k) ++ s.xs.drop k } :: L2)) (fun _ i _ => s.xs.length - (intOf i).toNat)
  case atStart => exact ⟨0, k0, by omega, rfl, rfl, by simp, by simpa [mksG] using H⟩
  case round =>
    clear H
    obtain ⟨k, v, hk0, rfl, rfl, hv, H⟩ := hrel
    have hvs := sum_take_le (f := wG) (l := s.xs) (k := k)
    have hv0 : 0 ≤ v := by omega
    have hv1 : v ≤ 2000000000 := by omega
    have HV := Lib.hid hv; clear hv
    by_cases hk : k < s.xs.length
    · obtain ⟨y, hy0⟩ : ∃ y, s.xs[k]? = some y := ⟨_, List.getElem?_eq_getElem hk⟩
      have HY := Lib.hid hy0; clear hy0
      obtain ⟨A, hPd⟩ : ∃ A, A = mksG k0 (s.xs.take k) := ⟨_, rfl⟩
      have HA := Lib.hid hPd
      have hPl : A.length = k := by rw [hPd, mksG_len, List.length_take]; omega
      rw [drop_cons HY.out, ← hPd] at H
      clear hPd
      obtain ⟨D, hD⟩ : ∃ D, D = s.xs.drop (k + 1) := ⟨_, rfl⟩
      rw [← hD] at H
      have HD := Lib.hid hD; clear hD
      replace H := H.many_split.slices
      have HP := Lib.hid hPl
      have HN : Hid ((A ++ y :: D).length = s.xs.length) := by show (A ++ y :: D).length = s.xs.length; rw [HD.out]; simp [hPl]; omega
      have HK : Hid ((A ++ y :: D)[k]? = some y) := by show (A ++ y :: D)[k]? = some y; rw [List.getElem?_append_right (by omega), hPl, Nat.sub_self]; rfl
      clear hPl
      obtain ⟨zs, hzs⟩ : ∃ zs, zs = A ++ y :: D := ⟨_, rfl⟩
      rw [← hzs] at HN HK
      have hw := Nat.le_trans (sum_mem (f := wG) (List.mem_of_getElem? HY.out)) Zs
      have ZY : Hid (y.prog.xs.length ≤ 4194304 ∧ y.written.xs.length ≤ 4194304 ∧ y.live.xs.length ≤ 4194304 ∧ y.seen.xs.length ≤ 4194304) := Lib.hid (ZG _ (List.mem_of_getElem? HY.out))
      have zy1 := ZY.out.1
      have zy2 := ZY.out.2.1
      have zy3 := ZY.out.2.2.1
      have zy4 := ZY.out.2.2.2
      have H : Hp W0 wr (.ins y.prog :: .slot y.written :: .slot y.live :: .int y.seen :: .many En.gst A :: .many En.gst D :: .gsl (⟨s.A, s.c, zs⟩ : Sl GV) :: L2) := by rw [hzs]; exact H
      have HE := Lib.hid hzs; clear hzs
      go_wp2_with (first
        | go_skip
        | ((with_reducible refine at_load ?_); first | (refine wpList_load_at rfl rfl (⟨s.A, s.c, zs⟩ : Sl GV) (H.rdgsl (by repeat (first | exact Take.head | apply Take.tail))) rfl _ HK.out (by first | exact j_6 _ | exact j_7 _ | exact j_10 _ | exact j_11 _ | exact j_12 _ | exact rfl | exact (Nat.add_zero _).symm) rfl ?_))
        | ((with_reducible refine at_store ?_); first | (refine wpList_store_g rfl rfl H (⟨s.A, s.c, zs⟩ : Sl GV) (by repeat (first | exact Take.head | apply Take.tail)) rfl rfl _ HK.out (by first | exact j_6 _ | exact j_7 _ | exact j_10 _ | exact j_11 _ | exact j_12 _ | exact rfl | exact (Nat.add_zero _).symm) (by first | exact CellsOf.agg | exact CellsOf.int | exact CellsOf.bool | exact CellsOf.slice | exact CellsOf.string | exact CellsOf.pointer | exact CellsOf.func) (by repeat (first | exact SetsAt.nil | apply SetsAt.here | apply SetsAt.there)) rfl (by exact rfl) (by exact rfl) ?_; clear H; intro w H; refine stage H HE HP HN ?_; clear H HE HN HK; intro zs HE HN HK H; simp only [put_1, put_2, put_5, put_6, put_7, put_8, put_9, put_10, put_11, put_12, put_13] at HE HK H))
        | ((with_reducible refine at_index ?_); first | (refine wpList_index_n rfl rfl (⟨s.A, s.c, zs⟩ : Sl GV) (H.rdgsl (by repeat (first | exact Take.head | apply Take.tail))) rfl rfl HN.out hk ?_))
        | (go_at_call 116; (with_reducible refine at_arg2 (.slice y.prog.A y.prog.xs.length y.prog.c) ?_); refine (markInsS_any y.prog 0 v _ (H.get (e := En.ins y.prog) (by repeat (first | exact Take.head | apply Take.tail))) (by have := ZY.out; unfold big; omega) (by omega) (by omega)).mono ?_; rintro e w ⟨rfl, ho, ht⟩; replace H := Hp.swap_at (e := En.ins y.prog) (e' := En.ins ⟨y.prog.A, y.prog.c, marksIns v y.prog.xs.length⟩) H (by repeat (first | exact Take.head | apply Take.tail)) ht ho rfl; clear ho ht)
        | (go_at_call 117; (with_reducible refine at_arg2 (.slice y.live.A y.live.xs.length y.live.c) ?_); refine (markSlotS_any y.live 0 (v + 2 * (y.prog.xs.length : Int) + 1 + 1 + 2 * (y.written.xs.length : Int)) _ (H.get (e := En.slot y.live) (by repeat (first | exact Take.head | apply Take.tail))) (by have := ZY.out; unfold big; omega) (by omega) (by omega)).mono ?_; rintro e w ⟨rfl, ho, ht⟩; replace H := Hp.swap_at (e := En.slot y.live) (e' := En.slot ⟨y.live.A, y.live.c, marksSlot (v + 2 * (y.prog.xs.length : Int) + 1 + 1 + 2 * (y.written.xs.length : Int)) y.live.xs.length⟩) H (by repeat (first | exact Take.head | apply Take.tail)) ht ho rfl; clear ho ht)
        | (go_at_call 117; (with_reducible refine at_arg2 (.slice y.written.A y.written.xs.length y.written.c) ?_); refine (markSlotS_any y.written 0 (v + 2 * (y.prog.xs.length : Int) + 1 + 1) _ (H.get (e := En.slot y.written) (by repeat (first | exact Take.head | apply Take.tail))) (by have := ZY.out; unfold big; omega) (by omega) (by omega)).mono ?_; rintro e w ⟨rfl, ho, ht⟩; replace H := Hp.swap_at (e := En.slot y.written) (e' := En.slot ⟨y.written.A, y.written.c, marksSlot (v + 2 * (y.prog.xs.length : Int) + 1 + 1) y.written.xs.length⟩) H (by repeat (first | exact Take.head | apply Take.tail)) ht ho rfl; clear ho ht)
        | (go_at_call 17; (with_reducible refine at_arg2 (.slice y.seen.A y.seen.xs.length y.seen.c) ?_); refine (markIntS_any y.seen 0 (v + 2 * (y.prog.xs.length : Int) + 1 + 1 + 2 * (y.written.xs.length : Int) + 2 * (y.live.xs.length : Int) + 1 + 1 + 1 + 1 + 1 + 1 + 1 + 1 + 1) _ (H.get (e := En.int y.seen) (by repeat (first | exact Take.head | apply Take.tail))) (by have := ZY.out; unfold big; omega) (by omega) (by omega)).mono ?_; rintro e w ⟨rfl, ho, ht⟩; replace H := Hp.swap_at (e := En.int y.seen) (e' := En.int ⟨y.seen.A, y.seen.c, marksInt (v + 2 * (y.prog.xs.length : Int) + 1 + 1 + 2 * (y.written.xs.length : Int) + 2 * (y.live.xs.length : Int) + 1 + 1 + 1 + 1 + 1 + 1 + 1 + 1 + 1) y.seen.xs.length⟩) H (by repeat (first | exact Take.head | apply Take.tail)) ht ho rfl; clear ho ht))
      have hwy : wG y = 2 * y.prog.xs.length + 2 * y.written.xs.length + 2 * y.live.xs.length + y.seen.xs.length + 11 := rfl
      go_roundw
      case rel =>
        refine ⟨k + 1, _, by omega, by go_num, rfl, ?_, ?_⟩
        · have h2 := sum_take_succ (f := wG) HY.out
          have h4 := HV.out
          omega
        · rw [mksG_snoc HY.out HV.out, ← HA.out, ← HD.out, List.append_assoc]
          replace H := H.take (e := .gsl (⟨s.A, s.c, zs⟩ : Sl GV)) (by repeat (first | exact Take.head | apply Take.tail))
          replace H := H.take (e := .many En.gst D) (by repeat (first | exact Take.head | apply Take.tail))
          replace H := H.take (e := .many En.gst A) (by repeat (first | exact Take.head | apply Take.tail))
          replace H := H.take (e := .int (mkG v y).seen) (by repeat (first | exact Take.head | apply Take.tail))
          replace H := H.take (e := .slot (mkG v y).live) (by repeat (first | exact Take.head | apply Take.tail))
          replace H := H.take (e := .slot (mkG v y).written) (by repeat (first | exact Take.head | apply Take.tail))
          replace H := H.take (e := .ins (mkG v y).prog) (by repeat (first | exact Take.head | apply Take.tail))
          have H1 : Hp W0 w (.gst (mkG v y) :: .many En.gst A :: .many En.gst D :: .gsl (⟨s.A, s.c, zs⟩ : Sl GV) :: L2) := H.guest _ _ _ _ _ _
          have H2 := H1.many_join
          have H3 := H2.recode (.tail .head) (A ++ mkG v y :: D) (by show (A ++ mkG v y :: D).length = zs.length; rw [HE.out]; simp) (by rw [HE.out]; simp [GV.cells, mkG, marksIns_len, marksSlot_len, marksInt_len, b3])
          exact H3.perm (List.Perm.swap _ _ _)
      case measure => simp [intOf]; omega
    · have hke : k = s.xs.length := by omega
      subst hke
      go_wp2
      go_ret
      have h4 := HV.out
      rw [List.take_length] at h4
      refine ⟨ret_int (by omega), ?_⟩
      rw [List.take_length, List.drop_length, List.append_nil] at H
      exact H.perm (List.Perm.swap _ _ _)
set_option linter.unusedSimpArgs false in
set_option linter.unusedVariables false in
set_option maxRecDepth 100000 in
set_option maxHeartbeats 4000000 in
theorem heldGS_c (s : Sl GV) (l : List GV) (k0 : Int) (W0 : World) (R : Rd GV.cells 15 W0 s) (Ri : ∀ x ∈ s.xs, GRd W0 x) (hm : s.xs = mksG k0 l) (Z : s.xs.length ≤ 4194304) (Zs : (l.map wG).sum ≤ 100000000) (ZG : ∀ g ∈ l, GBig g) (h0 : 0 ≤ k0) (h1 : k0 ≤ 1000000000) :
    Calls Tryz.prog 76 #[.slice s.A s.xs.length s.c, .int .i64 k0] W0 fun e w' => e = .returned (.int .i64 (k0 + ((l.map wG).sum : Nat))) ∧ Hp W0 w' [] := by
  have H := Hp.start W0
  have hsl : s.xs.length = l.length := by rw [hm, mksG_len]
  have HM := Lib.hid hm; clear hm
  have HSL := Lib.hid hsl; clear hsl
  go_enter Tryz.func76, Tryz.ntmps76
  go_wp2
  go_loopw [1, 5] (fun kv i wr => ∃ (k : Nat) (v : Int), k ≤ s.xs.length ∧ i = .int .i64 k ∧ kv = .int .i64 v ∧ v = k0 + (((l.take k).map wG).sum : Nat) ∧ Hp W0 wr []) (fun _ i _ => s.xs.length - (intOf i).toNat)
  case atStart => exact ⟨0, k0, by omega, rfl, rfl, by simp, H⟩
  case round =>
    clear H
    obtain ⟨k, v, hk0, rfl, rfl, hv, H⟩ := hrel
    have hvs := sum_take_le (f := wG) (l := l) (k := k)
    have hv0 : 0 ≤ v := by omega
    have hv1 : v ≤ 2000000000 := by omega
    have HV := Lib.hid hv; clear hv
    by_cases hk : k < s.xs.length
    · obtain ⟨y, hy0⟩ : ∃ y, l[k]? = some y := ⟨_, List.getElem?_eq_getElem (by rw [← HSL.out]; exact hk)⟩
      have HY := Lib.hid hy0; clear hy0
      have HX : Hid (s.xs[k]? = some (⟨⟨y.prog.A, y.prog.c, (marksIns v y.prog.xs.length)⟩, v + 2 * (y.prog.xs.length : Int), v + 2 * (y.prog.xs.length : Int) + 1, ⟨y.written.A, y.written.c, (marksSlot (v + 2 * (y.prog.xs.length : Int) + 1 + 1) y.written.xs.length)⟩, ⟨y.live.A, y.live.c, (marksSlot (v + 2 * (y.prog.xs.length : Int) + 1 + 1 + 2 * (y.written.xs.length : Int)) y.live.xs.length)⟩, ⟨(v + 2 * (y.prog.xs.length : Int) + 1 + 1 + 2 * (y.written.xs.length : Int) + 2 * (y.live.xs.length : Int)), (v + 2 * (y.prog.xs.length : Int) + 1 + 1 + 2 * (y.written.xs.length : Int) + 2 * (y.live.xs.length : Int) + 1), (v + 2 * (y.prog.xs.length : Int) + 1 + 1 + 2 * (y.written.xs.length : Int) + 2 * (y.live.xs.length : Int) + 1 + 1) % 3 == 0⟩, (v + 2 * (y.prog.xs.length : Int) + 1 + 1 + 2 * (y.written.xs.length : Int) + 2 * (y.live.xs.length : Int) + 1 + 1 + 1), ⟨(v + 2 * (y.prog.xs.length : Int) + 1 + 1 + 2 * (y.written.xs.length : Int) + 2 * (y.live.xs.length : Int) + 1 + 1 + 1 + 1), (v + 2 * (y.prog.xs.length : Int) + 1 + 1 + 2 * (y.written.xs.length : Int) + 2 * (y.live.xs.length : Int) + 1 + 1 + 1 + 1 + 1), (v + 2 * (y.prog.xs.length : Int) + 1 + 1 + 2 * (y.written.xs.length : Int) + 2 * (y.live.xs.length : Int) + 1 + 1 + 1 + 1 + 1 + 1) % 3 == 0, (v + 2 * (y.prog.xs.length : Int) + 1 + 1 + 2 * (y.written.xs.length : Int) + 2 * (y.live.xs.length : Int) + 1 + 1 + 1 + 1 + 1 + 1 + 1)⟩, (v + 2 * (y.prog.xs.length : Int) + 1 + 1 + 2 * (y.written.xs.length : Int) + 2 * (y.live.xs.length : Int) + 1 + 1 + 1 + 1 + 1 + 1 + 1 + 1) % 3 == 0, ⟨y.seen.A, y.seen.c, (marksInt (v + 2 * (y.prog.xs.length : Int) + 1 + 1 + 2 * (y.written.xs.length : Int) + 2 * (y.live.xs.length : Int) + 1 + 1 + 1 + 1 + 1 + 1 + 1 + 1 + 1) y.seen.xs.length)⟩⟩ : GV)) := by show s.xs[k]? = some (mkG v y); rw [HM.out]; exact mksG_get HY.out HV.out
      have RX : Hid (GRd W0 (⟨⟨y.prog.A, y.prog.c, (marksIns v y.prog.xs.length)⟩, v + 2 * (y.prog.xs.length : Int), v + 2 * (y.prog.xs.length : Int) + 1, ⟨y.written.A, y.written.c, (marksSlot (v + 2 * (y.prog.xs.length : Int) + 1 + 1) y.written.xs.length)⟩, ⟨y.live.A, y.live.c, (marksSlot (v + 2 * (y.prog.xs.length : Int) + 1 + 1 + 2 * (y.written.xs.length : Int)) y.live.xs.length)⟩, ⟨(v + 2 * (y.prog.xs.length : Int) + 1 + 1 + 2 * (y.written.xs.length : Int) + 2 * (y.live.xs.length : Int)), (v + 2 * (y.prog.xs.length : Int) + 1 + 1 + 2 * (y.written.xs.length : Int) + 2 * (y.live.xs.length : Int) + 1), (v + 2 * (y.prog.xs.length : Int) + 1 + 1 + 2 * (y.written.xs.length : Int) + 2 * (y.live.xs.length : Int) + 1 + 1) % 3 == 0⟩, (v + 2 * (y.prog.xs.length : Int) + 1 + 1 + 2 * (y.written.xs.length : Int) + 2 * (y.live.xs.length : Int) + 1 + 1 + 1), ⟨(v + 2 * (y.prog.xs.length : Int) + 1 + 1 + 2 * (y.written.xs.length : Int) + 2 * (y.live.xs.length : Int) + 1 + 1 + 1 + 1), (v + 2 * (y.prog.xs.length : Int) + 1 + 1 + 2 * (y.written.xs.length : Int) + 2 * (y.live.xs.length : Int) + 1 + 1 + 1 + 1 + 1), (v + 2 * (y.prog.xs.length : Int) + 1 + 1 + 2 * (y.written.xs.length : Int) + 2 * (y.live.xs.length : Int) + 1 + 1 + 1 + 1 + 1 + 1) % 3 == 0, (v + 2 * (y.prog.xs.length : Int) + 1 + 1 + 2 * (y.written.xs.length : Int) + 2 * (y.live.xs.length : Int) + 1 + 1 + 1 + 1 + 1 + 1 + 1)⟩, (v + 2 * (y.prog.xs.length : Int) + 1 + 1 + 2 * (y.written.xs.length : Int) + 2 * (y.live.xs.length : Int) + 1 + 1 + 1 + 1 + 1 + 1 + 1 + 1) % 3 == 0, ⟨y.seen.A, y.seen.c, (marksInt (v + 2 * (y.prog.xs.length : Int) + 1 + 1 + 2 * (y.written.xs.length : Int) + 2 * (y.live.xs.length : Int) + 1 + 1 + 1 + 1 + 1 + 1 + 1 + 1 + 1) y.seen.xs.length)⟩⟩ : GV)) := Lib.hid (Ri _ (List.mem_of_getElem? HX.out))
      have ZY : Hid (y.prog.xs.length ≤ 4194304 ∧ y.written.xs.length ≤ 4194304 ∧ y.live.xs.length ≤ 4194304 ∧ y.seen.xs.length ≤ 4194304) := Lib.hid (ZG _ (List.mem_of_getElem? HY.out))
      have zy1 := ZY.out.1
      have zy2 := ZY.out.2.1
      have zy3 := ZY.out.2.2.1
      have zy4 := ZY.out.2.2.2
      go_wp2_with (first
        | go_skip
        | ((with_reducible refine at_load ?_); first | (refine wpList_load_at rfl rfl s (R.at_ H) rfl _ HX.out (by first | exact j_6 _ | exact j_7 _ | exact j_10 _ | exact j_11 _ | exact j_12 _ | exact rfl | exact (Nat.add_zero _).symm) rfl ?_))
        | ((with_reducible refine at_index ?_); first | (refine wpList_index_n rfl rfl s (R.at_ H) rfl rfl rfl hk ?_))
        | (go_at_call 118; (with_reducible refine at_arg2 (.slice y.prog.A (marksIns v y.prog.xs.length).length y.prog.c) ?_); refine (heldInsS_any ⟨y.prog.A, y.prog.c, (marksIns v y.prog.xs.length)⟩ v _ (RX.out.prog.at_ H) (by show (marksIns v y.prog.xs.length) = _; rw [marksIns_len]) (by have := ZY.out; show (marksIns v y.prog.xs.length).length ≤ _; rw [marksIns_len]; unfold big; omega) (by omega) (by omega)).mono ?_; rintro e w ⟨he, hb⟩; simp only [marksIns_len] at he; subst he; replace H := H.still hb; clear hb)
        | (go_at_call 119; (with_reducible refine at_arg2 (.slice y.written.A (marksSlot (v + 2 * (y.prog.xs.length : Int) + 1 + 1) y.written.xs.length).length y.written.c) ?_); refine (heldSlotS_any ⟨y.written.A, y.written.c, (marksSlot (v + 2 * (y.prog.xs.length : Int) + 1 + 1) y.written.xs.length)⟩ (v + 2 * (y.prog.xs.length : Int) + 1 + 1) _ (RX.out.written.at_ H) (by show (marksSlot (v + 2 * (y.prog.xs.length : Int) + 1 + 1) y.written.xs.length) = _; rw [marksSlot_len]) (by have := ZY.out; show (marksSlot (v + 2 * (y.prog.xs.length : Int) + 1 + 1) y.written.xs.length).length ≤ _; rw [marksSlot_len]; unfold big; omega) (by omega) (by omega)).mono ?_; rintro e w ⟨he, hb⟩; simp only [marksSlot_len] at he; subst he; replace H := H.still hb; clear hb)
        | (go_at_call 119; (with_reducible refine at_arg2 (.slice y.live.A (marksSlot (v + 2 * (y.prog.xs.length : Int) + 1 + 1 + 2 * (y.written.xs.length : Int)) y.live.xs.length).length y.live.c) ?_); refine (heldSlotS_any ⟨y.live.A, y.live.c, (marksSlot (v + 2 * (y.prog.xs.length : Int) + 1 + 1 + 2 * (y.written.xs.length : Int)) y.live.xs.length)⟩ (v + 2 * (y.prog.xs.length : Int) + 1 + 1 + 2 * (y.written.xs.length : Int)) _ (RX.out.live.at_ H) (by show (marksSlot (v + 2 * (y.prog.xs.length : Int) + 1 + 1 + 2 * (y.written.xs.length : Int)) y.live.xs.length) = _; rw [marksSlot_len]) (by have := ZY.out; show (marksSlot (v + 2 * (y.prog.xs.length : Int) + 1 + 1 + 2 * (y.written.xs.length : Int)) y.live.xs.length).length ≤ _; rw [marksSlot_len]; unfold big; omega) (by omega) (by omega)).mono ?_; rintro e w ⟨he, hb⟩; simp only [marksSlot_len] at he; subst he; replace H := H.still hb; clear hb)
        | (go_at_call 77; (with_reducible refine at_arg2 (.slice y.seen.A (marksInt (v + 2 * (y.prog.xs.length : Int) + 1 + 1 + 2 * (y.written.xs.length : Int) + 2 * (y.live.xs.length : Int) + 1 + 1 + 1 + 1 + 1 + 1 + 1 + 1 + 1) y.seen.xs.length).length y.seen.c) ?_); refine (heldIntS_any ⟨y.seen.A, y.seen.c, (marksInt (v + 2 * (y.prog.xs.length : Int) + 1 + 1 + 2 * (y.written.xs.length : Int) + 2 * (y.live.xs.length : Int) + 1 + 1 + 1 + 1 + 1 + 1 + 1 + 1 + 1) y.seen.xs.length)⟩ (v + 2 * (y.prog.xs.length : Int) + 1 + 1 + 2 * (y.written.xs.length : Int) + 2 * (y.live.xs.length : Int) + 1 + 1 + 1 + 1 + 1 + 1 + 1 + 1 + 1) _ (RX.out.seen.at_ H) (by show (marksInt (v + 2 * (y.prog.xs.length : Int) + 1 + 1 + 2 * (y.written.xs.length : Int) + 2 * (y.live.xs.length : Int) + 1 + 1 + 1 + 1 + 1 + 1 + 1 + 1 + 1) y.seen.xs.length) = _; rw [marksInt_len]) (by have := ZY.out; show (marksInt (v + 2 * (y.prog.xs.length : Int) + 1 + 1 + 2 * (y.written.xs.length : Int) + 2 * (y.live.xs.length : Int) + 1 + 1 + 1 + 1 + 1 + 1 + 1 + 1 + 1) y.seen.xs.length).length ≤ _; rw [marksInt_len]; unfold big; omega) (by omega) (by omega)).mono ?_; rintro e w ⟨he, hb⟩; simp only [marksInt_len] at he; subst he; replace H := H.still hb; clear hb))

      have hwy : wG y = 2 * y.prog.xs.length + 2 * y.written.xs.length + 2 * y.live.xs.length + y.seen.xs.length + 11 := rfl
      go_roundw
      case rel =>
        refine ⟨k + 1, _, by omega, by go_num, rfl, ?_, H⟩
        have h2 := sum_take_succ (f := wG) HY.out
        have h4 := HV.out
        omega
      case measure => simp [intOf]; omega
    · have hke : k = s.xs.length := by omega
      subst hke
      go_wp2
      go_ret
      have h4 := HV.out
      rw [HSL.out, List.take_length] at h4
      exact ⟨ret_int (by omega), H⟩
end Go.Proofs.YthpoieoaaikpmaaGreat
