/- Plain law of the small machine of FnDmaLoad: no program in sight, no condition but the bounds of the drawn numbers. -/
import Derived.Test.YtjiiobliadeldaaQp
namespace Go.Proofs.Ytjiiobliadeldaa
open Go.RowKit
-- FnDmaLoad
def dmaOkM (m : MB) (g a v : Int) : Bool := reachBM m g a 2 && inB v 0 99
def dmaM (m : MB) (g a v : Int) : MB := if dmaOkM m g a v then { m with memory := withCellM m.memory (reachPM m g a 2) (reachCM m g a) v } else m
def dl0 (a : Int) : MB := bareNewM [[⟨3, a⟩, ⟨2, 1⟩, ⟨4, a⟩, ⟨7, 0⟩]]
def dls (q : Int) (k : Nat) : Slot := ⟨q + k, 3⟩
def dl1 (a q : Int) (k : Nat) : MB := pgW (dl0 a) (dls q) k
def dl2 (a q v : Int) : MB := dmaM (dl1 a q 4) 0 a v
def dl3 (a q v : Int) : MB := stepsM (dl2 a q v) [0, 0, 0]
def dlL (a q v : Int) : Bool := smB (dl0 a) && smB (dl1 a q 0) && smB (dl1 a q 1) && smB (dl1 a q 2) && smB (dl1 a q 3) && smB (dl1 a q 4) && smB (dl2 a q v) && smB (dl3 a q v) && dmaOkM (dl1 a q 4) 0 a v && readOkM (dl3 a q v) 0 a && decide (readM (dl3 a q v) 0 a = (v + 1) % 100) && decide ((gAtM (dl3 a q v) 0).seen = [v])
theorem dlL_0_0 : ∀ v : Fin 100, dlL 0 0 (v.val : Int) = true := by decide +kernel
theorem dlL_0_1 : ∀ v : Fin 100, dlL 0 1 (v.val : Int) = true := by decide +kernel
theorem dlL_0_2 : ∀ v : Fin 100, dlL 0 2 (v.val : Int) = true := by decide +kernel
theorem dlL_0_3 : ∀ v : Fin 100, dlL 0 3 (v.val : Int) = true := by decide +kernel
theorem dlL_1_0 : ∀ v : Fin 100, dlL 1 0 (v.val : Int) = true := by decide +kernel
theorem dlL_1_1 : ∀ v : Fin 100, dlL 1 1 (v.val : Int) = true := by decide +kernel
theorem dlL_1_2 : ∀ v : Fin 100, dlL 1 2 (v.val : Int) = true := by decide +kernel
theorem dlL_1_3 : ∀ v : Fin 100, dlL 1 3 (v.val : Int) = true := by decide +kernel
theorem dlL_2_0 : ∀ v : Fin 100, dlL 2 0 (v.val : Int) = true := by decide +kernel
theorem dlL_2_1 : ∀ v : Fin 100, dlL 2 1 (v.val : Int) = true := by decide +kernel
theorem dlL_2_2 : ∀ v : Fin 100, dlL 2 2 (v.val : Int) = true := by decide +kernel
theorem dlL_2_3 : ∀ v : Fin 100, dlL 2 3 (v.val : Int) = true := by decide +kernel
theorem dlL_3_0 : ∀ v : Fin 100, dlL 3 0 (v.val : Int) = true := by decide +kernel
theorem dlL_3_1 : ∀ v : Fin 100, dlL 3 1 (v.val : Int) = true := by decide +kernel
theorem dlL_3_2 : ∀ v : Fin 100, dlL 3 2 (v.val : Int) = true := by decide +kernel
theorem dlL_3_3 : ∀ v : Fin 100, dlL 3 3 (v.val : Int) = true := by decide +kernel
theorem dlL_4_0 : ∀ v : Fin 100, dlL 4 0 (v.val : Int) = true := by decide +kernel
theorem dlL_4_1 : ∀ v : Fin 100, dlL 4 1 (v.val : Int) = true := by decide +kernel
theorem dlL_4_2 : ∀ v : Fin 100, dlL 4 2 (v.val : Int) = true := by decide +kernel
theorem dlL_4_3 : ∀ v : Fin 100, dlL 4 3 (v.val : Int) = true := by decide +kernel
theorem dlL_5_0 : ∀ v : Fin 100, dlL 5 0 (v.val : Int) = true := by decide +kernel
theorem dlL_5_1 : ∀ v : Fin 100, dlL 5 1 (v.val : Int) = true := by decide +kernel
theorem dlL_5_2 : ∀ v : Fin 100, dlL 5 2 (v.val : Int) = true := by decide +kernel
theorem dlL_5_3 : ∀ v : Fin 100, dlL 5 3 (v.val : Int) = true := by decide +kernel
theorem dlL_6_0 : ∀ v : Fin 100, dlL 6 0 (v.val : Int) = true := by decide +kernel
theorem dlL_6_1 : ∀ v : Fin 100, dlL 6 1 (v.val : Int) = true := by decide +kernel
theorem dlL_6_2 : ∀ v : Fin 100, dlL 6 2 (v.val : Int) = true := by decide +kernel
theorem dlL_6_3 : ∀ v : Fin 100, dlL 6 3 (v.val : Int) = true := by decide +kernel
theorem dlL_7_0 : ∀ v : Fin 100, dlL 7 0 (v.val : Int) = true := by decide +kernel
theorem dlL_7_1 : ∀ v : Fin 100, dlL 7 1 (v.val : Int) = true := by decide +kernel
theorem dlL_7_2 : ∀ v : Fin 100, dlL 7 2 (v.val : Int) = true := by decide +kernel
theorem dlL_7_3 : ∀ v : Fin 100, dlL 7 3 (v.val : Int) = true := by decide +kernel
theorem dlL_8_0 : ∀ v : Fin 100, dlL 8 0 (v.val : Int) = true := by decide +kernel
theorem dlL_8_1 : ∀ v : Fin 100, dlL 8 1 (v.val : Int) = true := by decide +kernel
theorem dlL_8_2 : ∀ v : Fin 100, dlL 8 2 (v.val : Int) = true := by decide +kernel
theorem dlL_8_3 : ∀ v : Fin 100, dlL 8 3 (v.val : Int) = true := by decide +kernel
theorem dlL_9_0 : ∀ v : Fin 100, dlL 9 0 (v.val : Int) = true := by decide +kernel
theorem dlL_9_1 : ∀ v : Fin 100, dlL 9 1 (v.val : Int) = true := by decide +kernel
theorem dlL_9_2 : ∀ v : Fin 100, dlL 9 2 (v.val : Int) = true := by decide +kernel
theorem dlL_9_3 : ∀ v : Fin 100, dlL 9 3 (v.val : Int) = true := by decide +kernel
theorem dlL_10_0 : ∀ v : Fin 100, dlL 10 0 (v.val : Int) = true := by decide +kernel
theorem dlL_10_1 : ∀ v : Fin 100, dlL 10 1 (v.val : Int) = true := by decide +kernel
theorem dlL_10_2 : ∀ v : Fin 100, dlL 10 2 (v.val : Int) = true := by decide +kernel
theorem dlL_10_3 : ∀ v : Fin 100, dlL 10 3 (v.val : Int) = true := by decide +kernel
theorem dlL_11_0 : ∀ v : Fin 100, dlL 11 0 (v.val : Int) = true := by decide +kernel
theorem dlL_11_1 : ∀ v : Fin 100, dlL 11 1 (v.val : Int) = true := by decide +kernel
theorem dlL_11_2 : ∀ v : Fin 100, dlL 11 2 (v.val : Int) = true := by decide +kernel
theorem dlL_11_3 : ∀ v : Fin 100, dlL 11 3 (v.val : Int) = true := by decide +kernel
theorem dlL_12_0 : ∀ v : Fin 100, dlL 12 0 (v.val : Int) = true := by decide +kernel
theorem dlL_12_1 : ∀ v : Fin 100, dlL 12 1 (v.val : Int) = true := by decide +kernel
theorem dlL_12_2 : ∀ v : Fin 100, dlL 12 2 (v.val : Int) = true := by decide +kernel
theorem dlL_12_3 : ∀ v : Fin 100, dlL 12 3 (v.val : Int) = true := by decide +kernel
theorem dlL_13_0 : ∀ v : Fin 100, dlL 13 0 (v.val : Int) = true := by decide +kernel
theorem dlL_13_1 : ∀ v : Fin 100, dlL 13 1 (v.val : Int) = true := by decide +kernel
theorem dlL_13_2 : ∀ v : Fin 100, dlL 13 2 (v.val : Int) = true := by decide +kernel
theorem dlL_13_3 : ∀ v : Fin 100, dlL 13 3 (v.val : Int) = true := by decide +kernel
theorem dlL_14_0 : ∀ v : Fin 100, dlL 14 0 (v.val : Int) = true := by decide +kernel
theorem dlL_14_1 : ∀ v : Fin 100, dlL 14 1 (v.val : Int) = true := by decide +kernel
theorem dlL_14_2 : ∀ v : Fin 100, dlL 14 2 (v.val : Int) = true := by decide +kernel
theorem dlL_14_3 : ∀ v : Fin 100, dlL 14 3 (v.val : Int) = true := by decide +kernel
theorem dlL_15_0 : ∀ v : Fin 100, dlL 15 0 (v.val : Int) = true := by decide +kernel
theorem dlL_15_1 : ∀ v : Fin 100, dlL 15 1 (v.val : Int) = true := by decide +kernel
theorem dlL_15_2 : ∀ v : Fin 100, dlL 15 2 (v.val : Int) = true := by decide +kernel
theorem dlL_15_3 : ∀ v : Fin 100, dlL 15 3 (v.val : Int) = true := by decide +kernel
theorem dlL_0 : ∀ q : Fin 4, ∀ v : Fin 100, dlL 0 (q.val : Int) (v.val : Int) = true
  | ⟨0, _⟩ => dlL_0_0
  | ⟨1, _⟩ => dlL_0_1
  | ⟨2, _⟩ => dlL_0_2
  | ⟨3, _⟩ => dlL_0_3
  | ⟨_ + 4, h⟩ => absurd h (by omega)
theorem dlL_1 : ∀ q : Fin 4, ∀ v : Fin 100, dlL 1 (q.val : Int) (v.val : Int) = true
  | ⟨0, _⟩ => dlL_1_0
  | ⟨1, _⟩ => dlL_1_1
  | ⟨2, _⟩ => dlL_1_2
  | ⟨3, _⟩ => dlL_1_3
  | ⟨_ + 4, h⟩ => absurd h (by omega)
theorem dlL_2 : ∀ q : Fin 4, ∀ v : Fin 100, dlL 2 (q.val : Int) (v.val : Int) = true
  | ⟨0, _⟩ => dlL_2_0
  | ⟨1, _⟩ => dlL_2_1
  | ⟨2, _⟩ => dlL_2_2
  | ⟨3, _⟩ => dlL_2_3
  | ⟨_ + 4, h⟩ => absurd h (by omega)
theorem dlL_3 : ∀ q : Fin 4, ∀ v : Fin 100, dlL 3 (q.val : Int) (v.val : Int) = true
  | ⟨0, _⟩ => dlL_3_0
  | ⟨1, _⟩ => dlL_3_1
  | ⟨2, _⟩ => dlL_3_2
  | ⟨3, _⟩ => dlL_3_3
  | ⟨_ + 4, h⟩ => absurd h (by omega)
theorem dlL_4 : ∀ q : Fin 4, ∀ v : Fin 100, dlL 4 (q.val : Int) (v.val : Int) = true
  | ⟨0, _⟩ => dlL_4_0
  | ⟨1, _⟩ => dlL_4_1
  | ⟨2, _⟩ => dlL_4_2
  | ⟨3, _⟩ => dlL_4_3
  | ⟨_ + 4, h⟩ => absurd h (by omega)
theorem dlL_5 : ∀ q : Fin 4, ∀ v : Fin 100, dlL 5 (q.val : Int) (v.val : Int) = true
  | ⟨0, _⟩ => dlL_5_0
  | ⟨1, _⟩ => dlL_5_1
  | ⟨2, _⟩ => dlL_5_2
  | ⟨3, _⟩ => dlL_5_3
  | ⟨_ + 4, h⟩ => absurd h (by omega)
theorem dlL_6 : ∀ q : Fin 4, ∀ v : Fin 100, dlL 6 (q.val : Int) (v.val : Int) = true
  | ⟨0, _⟩ => dlL_6_0
  | ⟨1, _⟩ => dlL_6_1
  | ⟨2, _⟩ => dlL_6_2
  | ⟨3, _⟩ => dlL_6_3
  | ⟨_ + 4, h⟩ => absurd h (by omega)
theorem dlL_7 : ∀ q : Fin 4, ∀ v : Fin 100, dlL 7 (q.val : Int) (v.val : Int) = true
  | ⟨0, _⟩ => dlL_7_0
  | ⟨1, _⟩ => dlL_7_1
  | ⟨2, _⟩ => dlL_7_2
  | ⟨3, _⟩ => dlL_7_3
  | ⟨_ + 4, h⟩ => absurd h (by omega)
theorem dlL_8 : ∀ q : Fin 4, ∀ v : Fin 100, dlL 8 (q.val : Int) (v.val : Int) = true
  | ⟨0, _⟩ => dlL_8_0
  | ⟨1, _⟩ => dlL_8_1
  | ⟨2, _⟩ => dlL_8_2
  | ⟨3, _⟩ => dlL_8_3
  | ⟨_ + 4, h⟩ => absurd h (by omega)
theorem dlL_9 : ∀ q : Fin 4, ∀ v : Fin 100, dlL 9 (q.val : Int) (v.val : Int) = true
  | ⟨0, _⟩ => dlL_9_0
  | ⟨1, _⟩ => dlL_9_1
  | ⟨2, _⟩ => dlL_9_2
  | ⟨3, _⟩ => dlL_9_3
  | ⟨_ + 4, h⟩ => absurd h (by omega)
theorem dlL_10 : ∀ q : Fin 4, ∀ v : Fin 100, dlL 10 (q.val : Int) (v.val : Int) = true
  | ⟨0, _⟩ => dlL_10_0
  | ⟨1, _⟩ => dlL_10_1
  | ⟨2, _⟩ => dlL_10_2
  | ⟨3, _⟩ => dlL_10_3
  | ⟨_ + 4, h⟩ => absurd h (by omega)
theorem dlL_11 : ∀ q : Fin 4, ∀ v : Fin 100, dlL 11 (q.val : Int) (v.val : Int) = true
  | ⟨0, _⟩ => dlL_11_0
  | ⟨1, _⟩ => dlL_11_1
  | ⟨2, _⟩ => dlL_11_2
  | ⟨3, _⟩ => dlL_11_3
  | ⟨_ + 4, h⟩ => absurd h (by omega)
theorem dlL_12 : ∀ q : Fin 4, ∀ v : Fin 100, dlL 12 (q.val : Int) (v.val : Int) = true
  | ⟨0, _⟩ => dlL_12_0
  | ⟨1, _⟩ => dlL_12_1
  | ⟨2, _⟩ => dlL_12_2
  | ⟨3, _⟩ => dlL_12_3
  | ⟨_ + 4, h⟩ => absurd h (by omega)
theorem dlL_13 : ∀ q : Fin 4, ∀ v : Fin 100, dlL 13 (q.val : Int) (v.val : Int) = true
  | ⟨0, _⟩ => dlL_13_0
  | ⟨1, _⟩ => dlL_13_1
  | ⟨2, _⟩ => dlL_13_2
  | ⟨3, _⟩ => dlL_13_3
  | ⟨_ + 4, h⟩ => absurd h (by omega)
theorem dlL_14 : ∀ q : Fin 4, ∀ v : Fin 100, dlL 14 (q.val : Int) (v.val : Int) = true
  | ⟨0, _⟩ => dlL_14_0
  | ⟨1, _⟩ => dlL_14_1
  | ⟨2, _⟩ => dlL_14_2
  | ⟨3, _⟩ => dlL_14_3
  | ⟨_ + 4, h⟩ => absurd h (by omega)
theorem dlL_15 : ∀ q : Fin 4, ∀ v : Fin 100, dlL 15 (q.val : Int) (v.val : Int) = true
  | ⟨0, _⟩ => dlL_15_0
  | ⟨1, _⟩ => dlL_15_1
  | ⟨2, _⟩ => dlL_15_2
  | ⟨3, _⟩ => dlL_15_3
  | ⟨_ + 4, h⟩ => absurd h (by omega)
theorem dlL_all : ∀ a : Fin 16, ∀ q : Fin 4, ∀ v : Fin 100, dlL (a.val : Int) (q.val : Int) (v.val : Int) = true
  | ⟨0, _⟩ => dlL_0
  | ⟨1, _⟩ => dlL_1
  | ⟨2, _⟩ => dlL_2
  | ⟨3, _⟩ => dlL_3
  | ⟨4, _⟩ => dlL_4
  | ⟨5, _⟩ => dlL_5
  | ⟨6, _⟩ => dlL_6
  | ⟨7, _⟩ => dlL_7
  | ⟨8, _⟩ => dlL_8
  | ⟨9, _⟩ => dlL_9
  | ⟨10, _⟩ => dlL_10
  | ⟨11, _⟩ => dlL_11
  | ⟨12, _⟩ => dlL_12
  | ⟨13, _⟩ => dlL_13
  | ⟨14, _⟩ => dlL_14
  | ⟨15, _⟩ => dlL_15
  | ⟨_ + 16, h⟩ => absurd h (by omega)
end Go.Proofs.Ytjiiobliadeldaa
