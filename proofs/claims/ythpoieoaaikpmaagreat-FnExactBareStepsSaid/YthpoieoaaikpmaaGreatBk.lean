/- The laws' own marks on slices of slices. No condition but that the argument is the call's own. -/
import Derived.Test.YthpoieoaaikpmaaGreatBq
namespace Go.Proofs.YthpoieoaaikpmaaGreat
set_option linter.unusedSimpArgs false
set_option linter.unusedVariables false
open Go.RowKit
theorem Hp.recode {α : Type} {enc : α → List Value} {sz : Nat} {e : TypeId} {w0 w : World} {L L' : List En} {s : Sl α} (H : Hp w0 w L) (t : Take L (.sl enc sz e s) L') (xs : List α) (hl : xs.length = s.xs.length) (hf : xs.flatMap enc = s.xs.flatMap enc) : Hp w0 w (.sl enc sz e { s with xs := xs } :: L') := by
  refine (H.take t).equiv (List.Perm.refl _) fun h _ y hy => ?_
  rcases List.mem_cons.1 hy with rfl | hy
  · have h1 : Own enc sz e w 0 s := h (.sl enc sz e s) (by simp)
    show Own enc sz e w 0 { s with xs := xs }
    unfold Own at *
    simp only [hl, hf]
    exact h1
  · exact h y (by simp [hy])
theorem drop_cons {α : Type} {l : List α} {k : Nat} {y : α} (h : l[k]? = some y) : l.drop k = y :: l.drop (k + 1) := by
  obtain ⟨hk, rfl⟩ := List.getElem?_eq_some_iff.1 h
  exact List.drop_eq_getElem_cons hk
def mkI (v : Int) (y : Sl Int) : Sl Int := ⟨y.A, y.c, marksInt v y.xs.length⟩
def mksI (v : Int) : List (Sl Int) → List (Sl Int)
  | [] => []
  | y :: l => mkI v y :: mksI (v + 1 * y.xs.length) l
theorem mksI_len (v : Int) (l : List (Sl Int)) : (mksI v l).length = l.length := by
  induction l generalizing v with
  | nil => rfl
  | cons y l ih => simp [mksI, ih]
theorem mksI_append (v : Int) (l l' : List (Sl Int)) : mksI v (l ++ l') = mksI v l ++ mksI (v + 1 * ((l.map (fun x => x.xs.length)).sum : Nat)) l' := by
  induction l generalizing v with
  | nil => simp [mksI]
  | cons y l ih => simp only [List.cons_append, mksI, ih, List.map_cons, List.sum_cons]; congr 3; push_cast; omega
theorem mksI_snoc {v u : Int} {l : List (Sl Int)} {k : Nat} {y : Sl Int} (hy : l[k]? = some y) (hu : u = v + 1 * (((l.take k).map (fun x => x.xs.length)).sum : Nat)) : mksI v (l.take (k + 1)) = mksI v (l.take k) ++ [mkI u y] := by
  rw [List.take_add_one, hy, Option.toList_some, mksI_append, hu]; rfl
theorem mksI_get {v u : Int} {l : List (Sl Int)} {k : Nat} {y : Sl Int} (hy : l[k]? = some y) (hu : u = v + 1 * (((l.take k).map (fun x => x.xs.length)).sum : Nat)) : (mksI v l)[k]? = some (mkI u y) := by
  obtain ⟨hk, _⟩ := List.getElem?_eq_some_iff.1 hy
  have h1 : l = l.take (k + 1) ++ l.drop (k + 1) := (List.take_append_drop _ _).symm
  rw [h1, mksI_append, mksI_snoc hy hu, List.append_assoc, List.getElem?_append_right (by rw [mksI_len, List.length_take]; omega), mksI_len, List.length_take, Nat.min_eq_left (by omega), Nat.sub_self]; rfl
theorem mkI_len (v : Int) (y : Sl Int) : (mkI v y).xs.length = y.xs.length := marksInt_len _ _
set_option linter.unusedSimpArgs false in
set_option linter.unusedVariables false in
set_option maxRecDepth 100000 in
set_option maxHeartbeats 2000000 in
theorem markIS_H (s : Sl (Sl Int)) (k0 : Int) {W0 w : World} {L L1 L2 : List En} (H : Hp W0 w L) (t1 : Take L (.rows s) L1) (t2 : Take L1 (.many En.int s.xs) L2) (Z : s.xs.length ≤ 4194304) (Zs : (s.xs.map (fun x => x.xs.length)).sum ≤ 4194304) (h0 : 0 ≤ k0) (h1 : k0 ≤ 1000000000) :
    Calls Tryz.prog 73 #[.slice s.A s.xs.length s.c, .int .i64 k0] w fun e w' => e = .returned (.int .i64 (k0 + 1 * ((s.xs.map (fun x => x.xs.length)).sum : Nat))) ∧ Hp W0 w' (.rows { s with xs := mksI k0 s.xs } :: .many En.int (mksI k0 s.xs) :: L2) := by
  replace H := (H.take t1).take (.tail t2)
  clear t1 t2
  go_enter Tryz.func73, Tryz.ntmps73
  go_wp2
  go_loopw [1, 5] (fun kv i wr => ∃ (k : Nat) (v : Int), k ≤ s.xs.length ∧ i = .int .i64 k ∧ kv = .int .i64 v ∧ v = k0 + 1 * (((s.xs.take k).map (fun x => x.xs.length)).sum : Nat) ∧ Hp W0 wr (.many En.int (mksI k0 (s.xs.take k) ++ s.xs.drop k) :: .rows { s with xs := mksI k0 (s.xs.take k) ++ s.xs.drop k } :: L2)) (fun _ i _ => s.xs.length - (intOf i).toNat)
  case atStart => exact ⟨0, k0, by omega, rfl, rfl, by simp, by simpa [mksI] using H⟩
  case round =>
    clear H
    obtain ⟨k, v, hk0, rfl, rfl, hv, H⟩ := hrel
    have hvs := sum_take_le (f := fun x => x.xs.length) (l := s.xs) (k := k)
    have hv0 : 0 ≤ v := by omega
    have hv1 : v ≤ 10000000000 := by omega
    have HV := Lib.hid hv; clear hv
    by_cases hk : k < s.xs.length
    · obtain ⟨y, hy0⟩ : ∃ y, s.xs[k]? = some y := ⟨_, List.getElem?_eq_getElem hk⟩
      have HY := Lib.hid hy0; clear hy0
      obtain ⟨A, hPd⟩ : ∃ A, A = mksI k0 (s.xs.take k) := ⟨_, rfl⟩
      have HP := Lib.hid hPd
      have hPl : A.length = k := by rw [hPd, mksI_len, List.length_take]; omega
      rw [drop_cons HY.out, ← hPd] at H
      clear hPd
      obtain ⟨D, hD⟩ : ∃ D, D = s.xs.drop (k + 1) := ⟨_, rfl⟩
      rw [← hD] at H
      have HD := Lib.hid hD; clear hD
      have HZL : Hid ((A ++ y :: D).length = s.xs.length) := by show (A ++ y :: D).length = s.xs.length; rw [HD.out]; simp [hPl]; omega
      have HZK : Hid ((A ++ y :: D)[k]? = some y) := by show (A ++ y :: D)[k]? = some y; rw [List.getElem?_append_right (by omega), hPl, Nat.sub_self]; rfl
      have ZY := Lib.hid (Nat.le_trans (sum_mem (f := fun x : Sl Int => x.xs.length) (List.mem_of_getElem? HY.out)) Zs)
      clear hPl
      go_wp2_with (first
        | go_skip
        | (refine wpList_index_n rfl rfl (⟨s.A, s.c, A ++ y :: D⟩ : Sl (Sl Int)) (H.rdrows (by repeat (first | exact Take.head | apply Take.tail))) rfl rfl HZL.out hk ?_)
        | (refine wpList_load_rd rfl rfl (⟨s.A, s.c, A ++ y :: D⟩ : Sl (Sl Int)) (H.rdrows (by repeat (first | exact Take.head | apply Take.tail))) rfl y HZK.out rfl ?_)
        | (go_at_call 17; refine (markIntS_any y 0 v _ (H.many_split.get .head) ZY.out hv0 (by omega)).mono ?_; rintro e w ⟨rfl, ho, ht⟩; replace H := (Hp.swap_at (e' := En.int (mkI v y)) H.many_split .head ht ho rfl).many_join; clear ho ht))
      have ZY' := ZY.out
      go_roundw
      case rel =>
        refine ⟨k + 1, _, by omega, by go_num, rfl, ?_, ?_⟩
        · have h2 := sum_take_succ (f := fun x : Sl Int => x.xs.length) HY.out
          have h4 := HV.out
          omega
        · rw [mksI_snoc HY.out HV.out, ← HP.out, ← HD.out, List.append_assoc]
          have h5 := H.recode (.tail .head) (A ++ mkI v y :: D) (by simp) (by simp [hcells, mkI_len]; exact ⟨rfl, rfl⟩)
          exact h5.perm (List.Perm.swap _ _ _)
      case measure => simp [intOf]; omega
    · have hke : k = s.xs.length := by omega
      subst hke
      go_wp2
      go_ret
      have h4 := HV.out
      rw [List.take_length] at h4
      refine ⟨ret_int (by omega), ?_⟩
      rw [List.take_length, List.drop_length, List.append_nil] at H
      exact H.perm (List.Perm.swap _ _ _)
set_option linter.unusedSimpArgs false in
set_option linter.unusedVariables false in
set_option maxRecDepth 100000 in
set_option maxHeartbeats 2000000 in
theorem heldIS_c (s : Sl (Sl Int)) (l : List (Sl Int)) (k0 : Int) (W0 : World) (R : Rd hcells 1 W0 s) (Ri : ∀ x ∈ s.xs, Rd icell 1 W0 x) (hm : s.xs = mksI k0 l) (Z : s.xs.length ≤ 4194304) (Zs : (l.map (fun x => x.xs.length)).sum ≤ 4194304) (h0 : 0 ≤ k0) (h1 : k0 ≤ 1000000000) :
    Calls Tryz.prog 75 #[.slice s.A s.xs.length s.c, .int .i64 k0] W0 fun e w' => e = .returned (.int .i64 (k0 + 1 * ((l.map (fun x => x.xs.length)).sum : Nat))) ∧ Hp W0 w' [] := by
  have H := Hp.start W0
  have hsl : s.xs.length = l.length := by rw [hm, mksI_len]
  have HM := Lib.hid hm; clear hm
  have HSL := Lib.hid hsl; clear hsl
  go_enter Tryz.func75, Tryz.ntmps75
  go_wp2
  go_loopw [1, 5] (fun kv i wr => ∃ (k : Nat) (v : Int), k ≤ s.xs.length ∧ i = .int .i64 k ∧ kv = .int .i64 v ∧ v = k0 + 1 * (((l.take k).map (fun x => x.xs.length)).sum : Nat) ∧ Hp W0 wr []) (fun _ i _ => s.xs.length - (intOf i).toNat)
  case atStart => exact ⟨0, k0, by omega, rfl, rfl, by simp, H⟩
  case round =>
    clear H
    obtain ⟨k, v, hk0, rfl, rfl, hv, H⟩ := hrel
    have hvs := sum_take_le (f := fun x => x.xs.length) (l := l) (k := k)
    have hv0 : 0 ≤ v := by omega
    have hv1 : v ≤ 10000000000 := by omega
    have HV := Lib.hid hv; clear hv
    by_cases hk : k < s.xs.length
    · obtain ⟨y, hy0⟩ : ∃ y, l[k]? = some y := ⟨_, List.getElem?_eq_getElem (by rw [← HSL.out]; exact hk)⟩
      have HY := Lib.hid hy0; clear hy0
      have HX : Hid (s.xs[k]? = some (mkI v y)) := by show s.xs[k]? = some (mkI v y); rw [HM.out]; exact mksI_get HY.out HV.out
      have RX := Lib.hid (Ri _ (List.mem_of_getElem? HX.out))
      have ZY := Lib.hid (Nat.le_trans (sum_mem (f := fun x : Sl Int => x.xs.length) (List.mem_of_getElem? HY.out)) Zs)
      have ZX : Hid ((mkI v y).xs.length ≤ 4194304) := by show (mkI v y).xs.length ≤ 4194304; rw [mkI_len]; exact ZY.out
      obtain ⟨v', hv'⟩ : ∃ v', v' = v + 1 * ((mkI v y).xs.length : Int) := ⟨_, rfl⟩
      have hp : 0 ≤ v' := by omega
      have HW := Lib.hid hv'; clear hv'
      go_wp2_with (first
        | go_skip
        | (refine wpList_index_n rfl rfl s (R.at_ H) rfl rfl rfl hk ?_)
        | (refine wpList_load_rd rfl rfl s (R.at_ H) rfl (mkI v y) HX.out rfl ?_)
        | (go_at_call 77; refine (heldIntS_any (mkI v y) v _ (RX.out.at_ H) (by show marksInt v y.xs.length = marksInt v (marksInt v y.xs.length).length; rw [marksInt_len]) ZX.out hv0 (by omega)).mono ?_; rintro e w ⟨he, hb⟩; rw [← HW.out] at he; subst he; replace H := H.still hb; clear hb))
      go_roundw
      case rel =>
        refine ⟨k + 1, v', by omega, by go_num, rfl, ?_, H⟩
        have h2 := sum_take_succ (f := fun x : Sl Int => x.xs.length) HY.out
        have h4 := HV.out
        have h5 := HW.out
        rw [mkI_len] at h5
        omega
      case measure => simp [intOf]; omega
    · have hke : k = s.xs.length := by omega
      subst hke
      go_wp2
      go_ret
      have h4 := HV.out
      rw [HSL.out, List.take_length] at h4
      exact ⟨ret_int (by omega), H⟩
def mkP (v : Int) (y : Sl Ins) : Sl Ins := ⟨y.A, y.c, marksIns v y.xs.length⟩
def mksP (v : Int) : List (Sl Ins) → List (Sl Ins)
  | [] => []
  | y :: l => mkP v y :: mksP (v + 2 * y.xs.length) l
theorem mksP_len (v : Int) (l : List (Sl Ins)) : (mksP v l).length = l.length := by
  induction l generalizing v with
  | nil => rfl
  | cons y l ih => simp [mksP, ih]
theorem mksP_append (v : Int) (l l' : List (Sl Ins)) : mksP v (l ++ l') = mksP v l ++ mksP (v + 2 * ((l.map (fun x => x.xs.length)).sum : Nat)) l' := by
  induction l generalizing v with
  | nil => simp [mksP]
  | cons y l ih => simp only [List.cons_append, mksP, ih, List.map_cons, List.sum_cons]; congr 3; push_cast; omega
theorem mksP_snoc {v u : Int} {l : List (Sl Ins)} {k : Nat} {y : Sl Ins} (hy : l[k]? = some y) (hu : u = v + 2 * (((l.take k).map (fun x => x.xs.length)).sum : Nat)) : mksP v (l.take (k + 1)) = mksP v (l.take k) ++ [mkP u y] := by
  rw [List.take_add_one, hy, Option.toList_some, mksP_append, hu]; rfl
theorem mksP_get {v u : Int} {l : List (Sl Ins)} {k : Nat} {y : Sl Ins} (hy : l[k]? = some y) (hu : u = v + 2 * (((l.take k).map (fun x => x.xs.length)).sum : Nat)) : (mksP v l)[k]? = some (mkP u y) := by
  obtain ⟨hk, _⟩ := List.getElem?_eq_some_iff.1 hy
  have h1 : l = l.take (k + 1) ++ l.drop (k + 1) := (List.take_append_drop _ _).symm
  rw [h1, mksP_append, mksP_snoc hy hu, List.append_assoc, List.getElem?_append_right (by rw [mksP_len, List.length_take]; omega), mksP_len, List.length_take, Nat.min_eq_left (by omega), Nat.sub_self]; rfl
theorem mkP_len (v : Int) (y : Sl Ins) : (mkP v y).xs.length = y.xs.length := marksIns_len _ _
end Go.Proofs.YthpoieoaaikpmaaGreat
