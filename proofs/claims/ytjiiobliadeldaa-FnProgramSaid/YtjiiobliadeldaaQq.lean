/- Plain law of the small machine of FnProgram: no program in sight, no condition but the bounds of the drawn numbers. -/
import Derived.Test.YtjiiobliadeldaaQp
namespace Go.Proofs.Ytjiiobliadeldaa
open Go.RowKit
-- FnProgram
def pg0 (a v : Int) : MB := bareNewM [[⟨1, v⟩, ⟨4, a⟩, ⟨1, 0⟩, ⟨3, a⟩, ⟨5, 5⟩, ⟨7, 0⟩]]
def pgs (k : Nat) : Slot := ⟨7 - k, 3⟩
def pg1 (a v : Int) (k : Nat) : MB := pgW (pg0 a v) pgs k
def pgl : List Int := [0, 0, 0, 0, 0, 0, 0]
def pg2 (a v : Int) : MB := stepsM (pg1 a v 4) pgl
def pgL (a v : Int) : Bool := smB (pg0 a v) && smB (pg1 a v 0) && smB (pg1 a v 1) && smB (pg1 a v 2) && smB (pg1 a v 3) && smB (pg1 a v 4) && smB (pg2 a v) && decide (toldM (pg1 a v 4) pgl = [true, true, true, true, true, true, false]) && decide ((gAtM (pg2 a v) 0).seen = [v]) && decide ((pg2 a v).outs = [5]) && decide (cellAtM (pg2 a v).memory (7 - a / 4) (a % 4) = v) && (gAtM (pg2 a v) 0).halted
theorem pgL_0 : ∀ v : Fin 100, pgL 0 (v.val : Int) = true := by decide +kernel
theorem pgL_1 : ∀ v : Fin 100, pgL 1 (v.val : Int) = true := by decide +kernel
theorem pgL_2 : ∀ v : Fin 100, pgL 2 (v.val : Int) = true := by decide +kernel
theorem pgL_3 : ∀ v : Fin 100, pgL 3 (v.val : Int) = true := by decide +kernel
theorem pgL_4 : ∀ v : Fin 100, pgL 4 (v.val : Int) = true := by decide +kernel
theorem pgL_5 : ∀ v : Fin 100, pgL 5 (v.val : Int) = true := by decide +kernel
theorem pgL_6 : ∀ v : Fin 100, pgL 6 (v.val : Int) = true := by decide +kernel
theorem pgL_7 : ∀ v : Fin 100, pgL 7 (v.val : Int) = true := by decide +kernel
theorem pgL_8 : ∀ v : Fin 100, pgL 8 (v.val : Int) = true := by decide +kernel
theorem pgL_9 : ∀ v : Fin 100, pgL 9 (v.val : Int) = true := by decide +kernel
theorem pgL_10 : ∀ v : Fin 100, pgL 10 (v.val : Int) = true := by decide +kernel
theorem pgL_11 : ∀ v : Fin 100, pgL 11 (v.val : Int) = true := by decide +kernel
theorem pgL_12 : ∀ v : Fin 100, pgL 12 (v.val : Int) = true := by decide +kernel
theorem pgL_13 : ∀ v : Fin 100, pgL 13 (v.val : Int) = true := by decide +kernel
theorem pgL_14 : ∀ v : Fin 100, pgL 14 (v.val : Int) = true := by decide +kernel
theorem pgL_15 : ∀ v : Fin 100, pgL 15 (v.val : Int) = true := by decide +kernel
theorem pgL_all : ∀ a : Fin 16, ∀ v : Fin 100, pgL (a.val : Int) (v.val : Int) = true
  | ⟨0, _⟩ => pgL_0
  | ⟨1, _⟩ => pgL_1
  | ⟨2, _⟩ => pgL_2
  | ⟨3, _⟩ => pgL_3
  | ⟨4, _⟩ => pgL_4
  | ⟨5, _⟩ => pgL_5
  | ⟨6, _⟩ => pgL_6
  | ⟨7, _⟩ => pgL_7
  | ⟨8, _⟩ => pgL_8
  | ⟨9, _⟩ => pgL_9
  | ⟨10, _⟩ => pgL_10
  | ⟨11, _⟩ => pgL_11
  | ⟨12, _⟩ => pgL_12
  | ⟨13, _⟩ => pgL_13
  | ⟨14, _⟩ => pgL_14
  | ⟨15, _⟩ => pgL_15
  | ⟨_ + 16, h⟩ => absurd h (by omega)
end Go.Proofs.Ytjiiobliadeldaa
