/- The laws' own marks on slices of slices. No condition but that the argument is the call's own. -/
import Derived.Test.YtjiiobliadeldaaBb
namespace Go.Proofs.Ytjiiobliadeldaa
set_option linter.unusedSimpArgs false
set_option linter.unusedVariables false
open Go.RowKit
theorem Hp.recode {α : Type} {enc : α → List Value} {sz : Nat} {e : TypeId} {w0 w : World} {L L' : List En} {s : Sl α} (H : Hp w0 w L) (t : Take L (.sl enc sz e s) L') (xs : List α) (hl : xs.length = s.xs.length) (hf : xs.flatMap enc = s.xs.flatMap enc) : Hp w0 w (.sl enc sz e { s with xs := xs } :: L') := by
  refine (H.take t).equiv (List.Perm.refl _) fun h _ y hy => ?_
  rcases List.mem_cons.1 hy with rfl | hy
  · have h1 : Own enc sz e w 0 s := h (.sl enc sz e s) (by simp)
    show Own enc sz e w 0 { s with xs := xs }
    unfold Own at *
    simp only [hl, hf]
    exact h1
  · exact h y (by simp [hy])
theorem drop_cons {α : Type} {l : List α} {k : Nat} {y : α} (h : l[k]? = some y) : l.drop k = y :: l.drop (k + 1) := by
  obtain ⟨hk, rfl⟩ := List.getElem?_eq_some_iff.1 h
  exact List.drop_eq_getElem_cons hk
def mkI (v : Int) (y : Sl Int) : Sl Int := ⟨y.A, y.c, marksInt v y.xs.length⟩
def mksI (v : Int) : List (Sl Int) → List (Sl Int)
  | [] => []
  | y :: l => mkI v y :: mksI (v + 1 * y.xs.length) l
theorem mksI_len (v : Int) (l : List (Sl Int)) : (mksI v l).length = l.length := by
  induction l generalizing v with
  | nil => rfl
  | cons y l ih => simp [mksI, ih]
theorem mksI_append (v : Int) (l l' : List (Sl Int)) : mksI v (l ++ l') = mksI v l ++ mksI (v + 1 * ((l.map (fun x => x.xs.length)).sum : Nat)) l' := by
  induction l generalizing v with
  | nil => simp [mksI]
  | cons y l ih => simp only [List.cons_append, mksI, ih, List.map_cons, List.sum_cons]; congr 3; push_cast; omega
theorem mksI_snoc {v u : Int} {l : List (Sl Int)} {k : Nat} {y : Sl Int} (hy : l[k]? = some y) (hu : u = v + 1 * (((l.take k).map (fun x => x.xs.length)).sum : Nat)) : mksI v (l.take (k + 1)) = mksI v (l.take k) ++ [mkI u y] := by
  rw [List.take_add_one, hy, Option.toList_some, mksI_append, hu]; rfl
theorem mksI_get {v u : Int} {l : List (Sl Int)} {k : Nat} {y : Sl Int} (hy : l[k]? = some y) (hu : u = v + 1 * (((l.take k).map (fun x => x.xs.length)).sum : Nat)) : (mksI v l)[k]? = some (mkI u y) := by
  obtain ⟨hk, _⟩ := List.getElem?_eq_some_iff.1 hy
  have h1 : l = l.take (k + 1) ++ l.drop (k + 1) := (List.take_append_drop _ _).symm
  rw [h1, mksI_append, mksI_snoc hy hu, List.append_assoc, List.getElem?_append_right (by rw [mksI_len, List.length_take]; omega), mksI_len, List.length_take, Nat.min_eq_left (by omega), Nat.sub_self]; rfl
theorem mkI_len (v : Int) (y : Sl Int) : (mkI v y).xs.length = y.xs.length := marksInt_len _ _
def mkP (v : Int) (y : Sl Ins) : Sl Ins := ⟨y.A, y.c, marksIns v y.xs.length⟩
def mksP (v : Int) : List (Sl Ins) → List (Sl Ins)
  | [] => []
  | y :: l => mkP v y :: mksP (v + 2 * y.xs.length) l
theorem mksP_len (v : Int) (l : List (Sl Ins)) : (mksP v l).length = l.length := by
  induction l generalizing v with
  | nil => rfl
  | cons y l ih => simp [mksP, ih]
theorem mksP_append (v : Int) (l l' : List (Sl Ins)) : mksP v (l ++ l') = mksP v l ++ mksP (v + 2 * ((l.map (fun x => x.xs.length)).sum : Nat)) l' := by
  induction l generalizing v with
  | nil => simp [mksP]
  | cons y l ih => simp only [List.cons_append, mksP, ih, List.map_cons, List.sum_cons]; congr 3; push_cast; omega
theorem mksP_snoc {v u : Int} {l : List (Sl Ins)} {k : Nat} {y : Sl Ins} (hy : l[k]? = some y) (hu : u = v + 2 * (((l.take k).map (fun x => x.xs.length)).sum : Nat)) : mksP v (l.take (k + 1)) = mksP v (l.take k) ++ [mkP u y] := by
  rw [List.take_add_one, hy, Option.toList_some, mksP_append, hu]; rfl
theorem mksP_get {v u : Int} {l : List (Sl Ins)} {k : Nat} {y : Sl Ins} (hy : l[k]? = some y) (hu : u = v + 2 * (((l.take k).map (fun x => x.xs.length)).sum : Nat)) : (mksP v l)[k]? = some (mkP u y) := by
  obtain ⟨hk, _⟩ := List.getElem?_eq_some_iff.1 hy
  have h1 : l = l.take (k + 1) ++ l.drop (k + 1) := (List.take_append_drop _ _).symm
  rw [h1, mksP_append, mksP_snoc hy hu, List.append_assoc, List.getElem?_append_right (by rw [mksP_len, List.length_take]; omega), mksP_len, List.length_take, Nat.min_eq_left (by omega), Nat.sub_self]; rfl
theorem mkP_len (v : Int) (y : Sl Ins) : (mkP v y).xs.length = y.xs.length := marksIns_len _ _
end Go.Proofs.Ytjiiobliadeldaa
