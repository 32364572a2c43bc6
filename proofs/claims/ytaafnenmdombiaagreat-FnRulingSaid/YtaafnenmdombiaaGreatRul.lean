/- Plain facts of FnRuling. No condition. -/
import Derived.Test.YtaafnenmdombiaaGreatBz
import Derived.Test.YtaafnenmdombiaaGreatBn
namespace Go.Proofs.YtaafnenmdombiaaGreat
open Go.RowKit
theorem withSlotM_len (t : List Slot) (p : Int) (s : Slot) : (withSlotM t p s).length = t.length := by unfold withSlotM; split <;> simp
theorem setG_size (p : Int) (s : Slot) (x : MG) : (setG p s x).size = x.size := by simp [setG, MG.size, withSlotM_len]
theorem flushG_size (p : Int) (x : MG) : (flushG p x).size = x.size := by simp [flushG, MG.size, withSlotM_len]
theorem ch_at {m m' : MB} {g : Int} {c : Bool} {F : MG → MG} (e : m' = changedM m g c F) (h : chOkM m g c = true) :
    ∃ k : Nat, g = k ∧ c = true ∧ m'.guests.length = m.guests.length ∧ ∃ x, m.guests[k]? = some x ∧ guestOkM x = true ∧ m'.guests[k]? = some (F x) := by
  have h0 := h
  unfold chOkM at h0
  simp only [Bool.and_eq_true] at h0
  obtain ⟨⟨hb, hm⟩, hc⟩ := h0
  have hm2 := hm
  unfold hasM hasB at hm2
  simp only [Bool.and_eq_true, decide_eq_true_eq] at hm2
  obtain ⟨k, rfl⟩ := Int.eq_ofNat_of_zero_le hm2.1
  have hk : k < m.guests.length := by omega
  refine ⟨k, rfl, hc, ?_, m.guests[k], List.getElem?_eq_getElem hk, ?_, ?_⟩
  · rw [e]; unfold changedM; rw [if_pos h]; unfold withGuestM; rw [if_pos hm]; simp
  · unfold bareOkM at hb
    simp only [Bool.and_eq_true] at hb
    exact List.all_eq_true.1 hb.1 _ (List.getElem_mem hk)
  · rw [e]; unfold changedM; rw [if_pos h]; unfold withGuestM; rw [if_pos hm]; unfold gAtM; rw [if_pos hm]; simp [hk]
theorem guestOk_len {x : MG} (h : guestOkM x = true) : x.written.length = 4 ∧ x.live.length = 4 := by
  unfold guestOkM tableOkM at h
  simp only [Bool.and_eq_true, decide_eq_true_eq] at h
  omega
theorem gs_at {B : BV} {k : Nat} {x : MG} (h : B.m.guests[k]? = some x) : ∃ y, B.gs.xs[k]? = some y ∧ y.m = x := by
  have h2 : (B.gs.xs.map GV.m)[k]? = some x := h
  rw [List.getElem?_map] at h2
  exact Option.map_eq_some_iff.1 h2
theorem hasB_natR {p : Int} {n : Int} (h : hasB p n = true) : ∃ q : Nat, p = q ∧ (q : Int) < n := by
  unfold hasB at h
  simp only [Bool.and_eq_true, decide_eq_true_eq] at h
  obtain ⟨q, rfl⟩ := Int.eq_ofNat_of_zero_le h.1
  exact ⟨q, rfl, h.2⟩
theorem set_facts {x d : BV} {g p : Int} {c : Slot} (hd : d.m = changedM x.m g (hasB p 4 && slotOkM 8 c) (setG p c)) (h : chOkM x.m g (hasB p 4 && slotOkM 8 c) = true) :
    ∃ (k q : Nat) (y1 y0 : GV), g = k ∧ p = q ∧ x.gs.xs[k]? = some y0 ∧ d.gs.xs[k]? = some y1 ∧ y1.live.xs = y0.live.xs ∧ y1.written.xs[q]? = some c := by
  obtain ⟨k, hg, hc, _, m0, h0, hok, h1⟩ := ch_at hd h
  simp only [Bool.and_eq_true] at hc
  obtain ⟨q, hp, hq⟩ := hasB_natR hc.1
  obtain ⟨y0, a0, b0⟩ := gs_at h0
  obtain ⟨y1, a1, b1⟩ := gs_at h1
  have hl := guestOk_len hok
  refine ⟨k, q, y1, y0, hg, hp, a0, a1, ?_, ?_⟩
  · have e1 : y1.m.live = y0.m.live := by rw [b1, b0]; rfl
    exact e1
  · have e1 : y1.m.written = withSlotM m0.written p c := by rw [b1]; rfl
    have e2 : y1.written.xs = withSlotM m0.written p c := e1
    rw [e2, hp]
    have hql : q < m0.written.length := by omega
    unfold withSlotM hasB
    rw [if_pos (by simp; omega)]
    simp [hql]
theorem flush_facts {x d : BV} {g p : Int} (hd : d.m = changedM x.m g (hasB p 4) (flushG p)) (h : chOkM x.m g (hasB p 4) = true) :
    ∃ (k q : Nat) (y1 y0 : GV), g = k ∧ p = q ∧ x.gs.xs[k]? = some y0 ∧ d.gs.xs[k]? = some y1 ∧ q < 4 ∧ y0.live.xs.length = 4 ∧ y1.live.xs.length = 4 ∧ y0.written.xs.length = 4 ∧ (∀ i, i ≠ q → y1.live.xs[i]? = y0.live.xs[i]?) ∧ y1.live.xs[q]? = y0.written.xs[q]? := by
  obtain ⟨k, hg, hc, _, m0, h0, hok, h1⟩ := ch_at hd h
  obtain ⟨q, hp, hq⟩ := hasB_natR hc
  obtain ⟨y0, a0, b0⟩ := gs_at h0
  obtain ⟨y1, a1, b1⟩ := gs_at h1
  have hl := guestOk_len hok
  rw [← b0] at hl
  have l1 : y0.written.xs.length = 4 := hl.1
  have l2 : y0.live.xs.length = 4 := hl.2
  have hql : q < y0.live.xs.length := by omega
  have hqw : q < y0.written.xs.length := by omega
  have e2 : y1.live.xs = y0.live.xs.set q y0.written.xs[q] := by
    have e1 : y1.m.live = withSlotM m0.live p (slotAtM m0.written p) := by rw [b1]; rfl
    have e3 : y1.live.xs = withSlotM y0.live.xs p (slotAtM y0.written.xs p) := by rw [← b0] at e1; exact e1
    rw [e3, hp]
    unfold withSlotM slotAtM hasB
    rw [if_pos (by simp; omega), if_pos (by simp; omega)]
    simp [hqw]
  refine ⟨k, q, y1, y0, hg, hp, a0, a1, by omega, l2, by rw [e2]; simp [l2], l1, ?_, ?_⟩
  · intro i hi
    rw [e2, List.getElem?_set_ne (by omega)]
  · rw [e2, List.getElem?_set_self hql, List.getElem?_eq_getElem hqw]
def ruC1 : Bool := hasB 1 4 && slotOkM 8 ⟨5, 3⟩
def ru0 : MB := bareNewM [[⟨7, 0⟩]]
def ru1 : MB := changedM ru0 0 ruC1 (setG 1 ⟨5, 3⟩)
def ru2 : MB := changedM ru1 0 (hasB 1 4) (flushG 1)
theorem ru_facts : ru0.size ≤ 1000 ∧ ru1.size ≤ 1000 ∧ ru2.size ≤ 1000 ∧ chOkM ru1 0 (hasB 1 4) = true ∧ slotAtM (gAtM ru2 0).live 1 = ⟨5, 3⟩ := by decide +kernel
end Go.Proofs.YtaafnenmdombiaaGreat
