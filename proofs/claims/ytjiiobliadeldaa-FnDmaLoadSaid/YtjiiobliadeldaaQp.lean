/- Plain laws of small machines of fixed programs: no program in sight, no condition but the bounds of the drawn numbers. -/
import Derived.Test.YtjiiobliadeldaaTc
import Derived.Test.YtjiiobliadeldaaBzd
import Derived.Test.YtjiiobliadeldaaBn
import Derived.Test.YtjiiobliadeldaaBv
import Derived.Test.YtjiiobliadeldaaBr
namespace Go.Proofs.Ytjiiobliadeldaa
open Go.RowKit
theorem fin1 {n : Nat} {P : Int → Bool} (h : ∀ a : Fin n, P (a.val : Int) = true) {x : Int} (h0 : 0 ≤ x) (h1 : x < n) : P x = true := by
  have := h ⟨x.toNat, by omega⟩
  simpa [Int.toNat_of_nonneg h0] using this
theorem fin2 {n m : Nat} {P : Int → Int → Bool} (h : ∀ a : Fin n, ∀ b : Fin m, P (a.val : Int) (b.val : Int) = true) {x y : Int} (h0 : 0 ≤ x) (h1 : x < n) (k0 : 0 ≤ y) (k1 : y < m) : P x y = true := by
  have := h ⟨x.toNat, by omega⟩ ⟨y.toNat, by omega⟩
  simpa [Int.toNat_of_nonneg h0, Int.toNat_of_nonneg k0] using this
theorem fin3 {n m q : Nat} {P : Int → Int → Int → Bool} (h : ∀ a : Fin n, ∀ b : Fin m, ∀ c : Fin q, P (a.val : Int) (b.val : Int) (c.val : Int) = true) {x y z : Int} (h0 : 0 ≤ x) (h1 : x < n) (k0 : 0 ≤ y) (k1 : y < m) (l0 : 0 ≤ z) (l1 : z < q) : P x y z = true := by
  have := h ⟨x.toNat, by omega⟩ ⟨y.toNat, by omega⟩ ⟨z.toNat, by omega⟩
  simpa [Int.toNat_of_nonneg h0, Int.toNat_of_nonneg k0, Int.toNat_of_nonneg l0] using this
def smB (m : MB) : Bool := decide (m.size ≤ 1000)
theorem smB_le {m : MB} (h : smB m = true) : m.size ≤ 4194304 := by unfold smB at h; simp at h; omega
-- FnUnflushed
def ufq (a q : Int) : Bool := hasB (a / 4) 4 && slotOkM 8 ⟨q, 3⟩
def uf0 (a : Int) : MB := bareNewM [[⟨4, a⟩, ⟨7, 0⟩]]
def uf1 (a q : Int) : MB := changedM (uf0 a) 0 (ufq a q) (setG (a / 4) ⟨q, 3⟩)
def uf2 (a q : Int) : MB := stepM (uf1 a q) 0
def uf3 (a q : Int) : MB := changedM (uf2 a q) 0 (hasB (a / 4) 4) (flushG (a / 4))
def uf4 (a q : Int) : MB := changedM (uf3 a q) 0 (resC (uf3 a q) 0) (resF (uf3 a q) 0)
def uf5 (a q : Int) : MB := stepM (uf4 a q) 0
def ufL (a q : Int) : Bool := smB (uf0 a) && smB (uf1 a q) && smB (uf2 a q) && smB (uf3 a q) && smB (uf4 a q) && smB (uf5 a q) && decide ((gAtM (uf2 a q) 0).exit = ⟨1, a / 4, true, 0⟩) && chOkM (uf3 a q) 0 (resC (uf3 a q) 0) && stepOkM (uf4 a q) 0 && decide ((gAtM (uf5 a q) 0).exit = ⟨0, 0, false, 0⟩) && decide ((gAtM (uf5 a q) 0).pc = 1)
theorem ufL_all : ∀ a : Fin 16, ∀ q : Fin 8, ufL (a.val : Int) (q.val : Int) = true := by decide +kernel
-- FnTrapped
def trX (m : MB) (t : Int) : MB := withGuestM m 0 { gAtM m 0 with ctl := ⟨t, 0, false⟩ }
def tr0 (x : Int) : MB := bareNewM [[⟨5, x⟩, ⟨7, 0⟩]]
def tr1 (x t : Int) : MB := trX (tr0 x) t
def tr2 (x t : Int) : MB := stepM (tr1 x t) 0
def trO (t : Int) : Bool := decide (t = 0) || decide (t = 2)
def trL (x t : Int) : Bool := smB (tr0 x) && smB (tr1 x t) && smB (tr2 x t) && (decide ((tr2 x t).outs.length = 1) == trO t) && decide ((gAtM (tr2 x t) 0).exit = if trO t then ⟨0, 0, false, 0⟩ else ⟨3, 0, false, x⟩)
theorem trL_all : ∀ x : Fin 100, ∀ t : Fin 4, trL (x.val : Int) (t.val : Int) = true := by decide +kernel
-- FnMasked
def mk0 : MB := bareNewM [[⟨1, 1⟩, ⟨1, 2⟩, ⟨1, 3⟩]]
def mk1 (n : Int) : MB := changedM mk0 0 (injC mk0 0 n) (injF mk0 0 n)
def mk2 (n : Int) : MB := stepM (mk1 n) 0
def mk3 (n : Int) : MB := changedM (mk2 n) 0 (ctlOkM ⟨0, 0, true⟩) (ctlG ⟨0, 0, true⟩)
def mk4 (n : Int) : MB := stepM (mk3 n) 0
def mk5 (n : Int) : MB := stepM (mk4 n) 0
def mkL (n : Int) : Bool := smB mk0 && smB (mk1 n) && smB (mk2 n) && smB (mk3 n) && smB (mk4 n) && smB (mk5 n) && decide ((gAtM (mk2 n) 0).seen = []) && decide ((gAtM (mk5 n) 0).seen = [100 + n]) && decide ((gAtM (mk5 n) 0).a = 2)
theorem mkL_all : ∀ n : Fin 8, mkL (n.val : Int) = true := by decide +kernel
-- FnStands
def sd0 (x : Int) : MB := bareNewM [[⟨6, x⟩, ⟨7, 0⟩], [⟨1, 1⟩, ⟨7, 0⟩]]
def sdl : List Int := [0, 0, 0, 1, 0, 1, 1]
def sd1 (x : Int) : MB := stepsM (sd0 x) sdl
def sdL (x : Int) : Bool := smB (sd0 x) && smB (sd1 x) && decide (toldM (sd0 x) sdl = [true, false, false, true, false, true, false]) && decide ((gAtM (sd1 x) 0).exit = ⟨2, 0, false, x⟩) && decide (runnableM (sd1 x) = []) && (gAtM (sd1 x) 1).halted
theorem sdL_all : ∀ x : Fin 100, sdL (x.val : Int) = true := by decide +kernel
-- FnFlushTwice
def ft0 : MB := bareNewM [[⟨7, 0⟩]]
def ftS (m : MB) (k : Int) (s : Slot) : MB := changedM m 0 (hasB k 4 && slotOkM 8 s) (setG k s)
def ftF (m : MB) (k : Int) : MB := changedM m 0 (hasB k 4) (flushG k)
def mapM (t : List Slot) : Int := ((t.countP (fun s => !(s.page == -1)) : Nat) : Int)
def ftL (k : Int) (a b : Slot) : Bool :=
  let x := ftS ft0 k a
  let y := ftF x k
  let z := ftF y k
  let w := ftS z k b
  let v := ftF w k
  smB ft0 && smB x && smB y && smB z && smB w && smB v && chOkM w 0 (hasB k 4) && decide (y = z) && decide (slotAtM (gAtM w 0).live k = a) && decide (slotAtM (gAtM v 0).live k = b) && decide (mapM (gAtM v 0).live = 1)
theorem ftL_all : ∀ k : Fin 4, ∀ a : Fin 8, ∀ r : Fin 3, ∀ b : Fin 8, ∀ q : Fin 3, ftL (k.val : Int) ⟨(a.val : Int), 1 + (r.val : Int)⟩ ⟨(b.val : Int), 1 + (q.val : Int)⟩ = true := by decide +kernel
def pgW (m : MB) (f : Nat → Slot) : Nat → MB
  | 0 => m
  | k + 1 => withGuestM (pgW m f k) 0 { gAtM (pgW m f k) 0 with live := (gAtM (pgW m f k) 0).live.set k (f k) }
end Go.Proofs.Ytjiiobliadeldaa
