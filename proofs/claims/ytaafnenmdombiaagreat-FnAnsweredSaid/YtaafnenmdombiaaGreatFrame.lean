/- The last step of a law's proof, once for all laws of the seat: the call returns true, what was in memory is as it was, so each argument reads as before. -/
import Derived.Test.YtaafnenmdombiaaGreatRows
import Derived.WalkKit
import Derived.ProofKit
import Derived.Carry
import Derived.Below
import Derived.ChangeSame
import Derived.OpenShut
namespace Go.Proofs.YtaafnenmdombiaaGreat
open Go.ChangeShapes Go.WideShapes Go.ChangeAt Go.RowKit

theorem Fr.own : ownKnob Tryz.prog.godebug = none := by kernel_rfl
/-- The program's head, letter by letter (its numbers): its first three words, and what is behind them, which no fact looks into. -/
def Fr.w1 : List Char := ([104, 97, 114, 110, 101, 115, 115] : List Nat).map Char.ofNat
def Fr.w2 : List Char := ([100, 102, 101, 97, 52, 57, 52, 53, 100, 56, 51, 100, 51, 50, 52, 48, 101, 52, 57, 54, 52, 51, 49, 101, 99, 57, 54, 101, 99, 99, 97, 54, 51, 100, 99, 98, 55, 100, 102, 57, 56, 102, 101, 49, 97, 98, 102, 53, 100, 50, 100, 99, 102, 50, 97, 52, 55, 99, 55, 98, 51, 100, 53, 56] : List Nat).map Char.ofNat
def Fr.w3 : List Char := ([99, 117, 116] : List Nat).map Char.ofNat
def Fr.w4 : List Char := ([97, 116, 32, 108, 111, 111, 112, 46, 101, 120, 97, 109, 112, 108, 101, 47, 103, 48, 48, 57, 55, 53, 47, 108, 97, 119, 115, 46, 70, 110, 65, 110, 115, 119, 101, 114, 101, 100, 32, 108, 111, 111, 112, 46, 101, 120, 97, 109, 112, 108, 101, 47, 103, 48, 48, 57, 55, 53, 47, 108, 97, 119, 115, 46, 70, 110, 82, 117, 108, 105, 110, 103, 32, 108, 111, 111, 112, 46, 101, 120, 97, 109, 112, 108, 101, 47, 103, 48, 48, 57, 55, 53, 47, 108, 97, 119, 115, 46, 70, 110, 66, 97, 114, 101, 32, 108, 111, 111, 112, 46, 101, 120, 97, 109, 112, 108, 101, 47, 103, 48, 48, 57, 55, 53, 47, 108, 97, 119, 115, 46, 70, 110, 66, 97, 114, 101, 83, 116, 101, 112, 115] : List Nat).map Char.ofNat
def Fr.sp : Char := Char.ofNat 32
theorem Fr.order : Tryz.prog.initOrder = String.ofList (Fr.w1 ++ Fr.sp :: (Fr.w2 ++ Fr.sp :: (Fr.w3 ++ Fr.sp :: Fr.w4))) := by kernel_rfl
theorem Fr.word (b : List Char) : ∀ a : List Char, (a.all fun c => c != Fr.sp) = true → wordsSigns (a ++ Fr.sp :: b) = a :: wordsSigns b
  | [], _ => rfl
  | c :: a, h => by
    simp only [List.all_cons, Bool.and_eq_true, bne_iff_ne] at h
    have ih := Fr.word b a h.2
    have hc : c ≠ Char.ofNat 32 := h.1
    rw [List.cons_append, wordsSigns, ih]
    exact fun e => hc e
theorem Fr.words : wordsSigns Tryz.prog.initOrder.toList = Fr.w1 :: Fr.w2 :: Fr.w3 :: wordsSigns Fr.w4 := by
  rw [Fr.order, String.toList_ofList, Fr.word _ Fr.w1 (by kernel_rfl), Fr.word _ Fr.w2 (by kernel_rfl), Fr.word _ Fr.w3 (by kernel_rfl)]
theorem Fr.behind (T : List (List Char)) : behindMainWord (Fr.w1 :: Fr.w2 :: Fr.w3 :: T) = Fr.w3 :: T := by kernel_rfl
theorem Fr.noGc : (Fr.w3 == "gc".toList) = false := by kernel_rfl
theorem Fr.noSpec : (Fr.w3 == "spec".toList) = false := by kernel_rfl
theorem Fr.noCarried : (Fr.w3 == "carried".toList) = false := by kernel_rfl
theorem Fr.isCut : (Fr.w3 == "cut".toList) = true := by kernel_rfl
theorem Fr.isCut2 : (some Fr.w3 == some "cut".toList) = true := by kernel_rfl
theorem Fr.strip (T : List (List Char)) : stripLifts liftWords (Fr.w3 :: T) = ([], Fr.w3 :: T) := by kernel_rfl
theorem Fr.noLater : Tryz.prog.laysLater = false := by kernel_rfl
theorem Fr.noReflect : Tryz.prog.bearsReflect = false := by kernel_rfl
theorem Fr.fits : Tryz.prog.doorFits [] = true := by kernel_rfl
/-- (Over any program: so that the kernel reckons nothing on its way.) -/
theorem Fr.mayEnter_of (P : Program) (w1 w2 w3 : List Char) (T : List (List Char)) (h : wordsSigns P.initOrder.toList = w1 :: w2 :: w3 :: T) (hb : behindMainWord (w1 :: w2 :: w3 :: T) = w3 :: T) (h1 : (w3 == "gc".toList) = false) (h2 : (w3 == "spec".toList) = false)
    (h3 : (w3 == "carried".toList) = false) (h4 : (some w3 == some "cut".toList) = true) (h5 : stripLifts liftWords (w3 :: T) = ([], w3 :: T)) (h6 : P.laysLater = false) (h7 : P.bearsReflect = false) (h8 : P.doorFits [] = true) : P.mayEnter = true := by
  unfold Program.mayEnter
  rw [h, hb]
  dsimp only
  rw [h5, h1, h2, h3, h6, h7, h8]
  dsimp only [List.head?_cons]
  rw [h4]
  rfl
theorem Fr.make_of (P : Program) (w1 w2 w3 : List Char) (T : List (List Char)) (h : wordsSigns P.initOrder.toList = w1 :: w2 :: w3 :: T) (hb : behindMainWord (w1 :: w2 :: w3 :: T) = w3 :: T) (h1 : (w3 == "gc".toList) = false) (h2 : (w3 == "spec".toList) = false)
    (h4 : (w3 == "cut".toList) = true) : P.make = some .cut := by
  unfold Program.make
  rw [h, hb]
  dsimp only
  rw [h1, h2, h4]
  rfl
theorem Fr.lifts_of (P : Program) (w1 w2 w3 : List Char) (T : List (List Char)) (h : wordsSigns P.initOrder.toList = w1 :: w2 :: w3 :: T) (hb : behindMainWord (w1 :: w2 :: w3 :: T) = w3 :: T) (h3 : (some w3 == some "carried".toList) = false)
    (h5 : stripLifts liftWords (w3 :: T) = ([], w3 :: T)) : P.liftsFinal = false := by
  have e : P.headLifts = [] := by
    unfold Program.headLifts
    rw [h, hb, h5]
    dsimp only
    split <;> rfl
  unfold Program.liftsFinal
  rw [h, hb, e]
  dsimp only [List.head?_cons]
  rw [h3]
  rfl
theorem Fr.noCarried2 : (some Fr.w3 == some "carried".toList) = false := by kernel_rfl
theorem Fr.mayEnter : Tryz.prog.mayEnter = true := Fr.mayEnter_of _ _ _ _ _ Fr.words (Fr.behind _) Fr.noGc Fr.noSpec Fr.noCarried Fr.isCut2 (Fr.strip _) Fr.noLater Fr.noReflect Fr.fits
theorem Fr.lifts : Tryz.prog.liftsFinal = false := Fr.lifts_of _ _ _ _ _ Fr.words (Fr.behind _) Fr.noCarried2 (Fr.strip _)
theorem Fr.make : Tryz.prog.make = some .cut := Fr.make_of _ _ _ _ _ Fr.words (Fr.behind _) Fr.noGc Fr.noSpec Fr.isCut
/-- The closed facts, those three told. -/
theorem Fr.facts_of (P : Program) (f : FuncId) (fn : Func) (s : ChangeSpec) (c : OpenClaim) (h1 : P.mayEnter = true) (h2 : P.liftsFinal = false) (h3 : P.make = some .cut)
    (h : (c.wf (OpenSpec.ofChange s) && laidOutB P && mapsRowed P &&
      fn.params.all (P.readableRec ·) && namedTie P c.named s.vars &&
      (c.stops == []) && (P.stops == []) && (c.knobs == []) && (P.stopKnobs == []) &&
      (c.inPlace == P.inPlace f) && (c.unfollowed == P.unfollowed f) && (c.recurses == P.recurses f) && (c.named == P.varsNamed f) &&
      (c.maps == (fn.params.toList ++ s.plain.varTypes P).any (P.mapsRec ·)) && (c.ifaces == (fn.params.toList ++ s.plain.varTypes P).any (P.ifacesRec ·)) && (c.mapsOut == P.mapsAmong fn.resultTypes.toList) &&
      (c.loops == (fn.params.toList ++ s.plain.varTypes P).any (P.loopsFrom ·)) && (c.wideKeys == (fn.params.toList ++ s.plain.varTypes P ++ fn.resultTypes.toList).any (P.wideKeysFrom ·)) &&
      s.vars.all (P.varReadable ·) && fn.resultTypes.all (fun t => P.readableRec t && decide (t < P.types.size)) && (c.ifacesOut == fn.resultTypes.toList.any (P.ifacesRec ·)) && (c.loopsOut == fn.resultTypes.toList.any (P.loopsFrom ·)) &&
      (c.plainKeys == P.plainKeys) && c.shortTexts.isNone && P.stopsHeard && true && (c.lifted == false) && ((some Make.cut : Option Make) == some c.make) &&
      (c.kinds == (if c.domain.isEmpty then [] else fn.params.toList.map fun t => match P.underlying t with | some (.int k) => some k | _ => none)) && (c.pinned == c.pinnedBy) &&
      (c.veiled == (fn.params.toList ++ s.plain.varTypes P ++ fn.resultTypes.toList).any (P.veiledRec ·)) && c.veiledFits P fn.params.toList (fn.params.toList ++ s.plain.varTypes P ++ fn.resultTypes.toList)) = true) : joinedFacts P f fn s c = true := by
  unfold joinedFacts
  rw [h1, h2, h3]
  exact h
theorem Fr.laidOut : laidOutB Tryz.prog = true := by kernel_rfl

section
variable {H : Type} {enc : TypeId × Value → H} {P : Program}
theorem post_of_below {f : Func} {s : ChangeSpec} {apart fresh handsOn again : Bool} {W W' : World} {args : Array Value} {v : Value} {ds gs : List (DataW H)} {before pa pv : List MemPlace}
    (hW : DataW.Whole enc P f.params.toList s.vars apart W args.toList ds gs before)
    (hres : ∀ (b : Nat) (sp : Nat → Bool) (hd : Bool), DataW.TrodAll enc P W' b sp hd f.resultTypes.toList (v.resultList f.resultTypes.size) (s.fn H (ds ++ gs)).results [])
    (hargs : ∀ sp : Nat → Bool, (∀ p ∈ before, sp p.block = true) → DataW.TrodAll enc P W' 0 sp true f.params.toList args.toList (s.fn H (ds ++ gs)).args pa)
    (hvars : ∀ sp : Nat → Bool, (∀ p ∈ before, sp p.block = true) → DataW.TrodVars enc P W' sp s.vars (s.fn H (ds ++ gs)).vars pv)
    (hps : before = pa ++ pv) (hb : Below W.heap.size W W')
    (hok : ∀ (j : Nat) (t : TypeId) (r : Value), f.resultTypes[j]? = some t → (v.resultList f.resultTypes.size)[j]? = some r → Value.okWide P W' .any 0 t r) :
    s.post enc P f apart fresh handsOn again W args v W' := by
  have hlt : ∀ p ∈ before, p.block < W.heap.size := fun p hp => hW.lt p hp
  have hold : ∀ p ∈ before, (fun b => decide (b < W.heap.size)) p.block = true := fun p hp => by simpa using hlt p hp
  refine ⟨ds, gs, before, [], pa, pv, hW, hres _ _ _, hargs _ hold, hvars _ hold, World.keptBut_mono (fun p hp => ⟨hp, ?_⟩) (hb.frame (· ∈ before)), fun _ => ?_⟩
  · rw [hps, List.mem_append] at hp
    exact Or.inr hp
  · obtain ⟨_, _, _, _, _, hz, hn⟩ := hW
    refine ⟨hok, _, _, ([] ++ pa) ++ pv, ⟨[] ++ pa, pv, trodAll_append (hargs _ (fun _ _ => rfl)) (hres _ _ _), hvars _ (fun _ _ => rfl), rfl, ?_, ?_⟩, ?_⟩
    · intro b off hp
      have hin : MemPlace.cell b off ∈ before := by rw [hps]; simpa using hp
      rw [hb.frozen (hlt _ hin)]
      exact hz b off hin
    · intro ha
      have := hn ha
      rw [hps] at this
      simpa using this
    · intro p hp _
      rw [hps]
      simpa using hp
theorem args_stay (hl : laidOutB P = true) {W W' : World} (hb : Below W.heap.size W W') {sp : Nat → Bool} : ∀ (ts : List TypeId) (vs : List Value) (ds : List (DataW H)) (ps : List MemPlace),
    (ts.all fun t => P.readableRec t && decide (t < P.types.size)) = true → DataW.TrodAll enc P W 0 (fun _ => true) true ts vs ds ps → (∀ p ∈ ps, p.block < W.heap.size) → (∀ p ∈ ps, sp p.block = true) → DataW.TrodAll enc P W' 0 sp true ts vs ds ps
  | [], vs, ds, ps, _, h, _, _ => by
    obtain ⟨rfl, rfl, rfl⟩ := trodAll_nil h
    exact trodAll_mk0
  | t :: ts, vs, ds, ps, hr, h, hlt, hsp => by
    obtain ⟨v, vs', d, ds', p, q, rfl, rfl, rfl, h1, h2⟩ := trodAll_cons h
    simp only [List.all_cons, Bool.and_eq_true, decide_eq_true_eq] at hr
    have ih := args_stay hl hb (sp := sp) ts vs' ds' q (by simpa using hr.2) h2 (fun x hx => hlt x (List.mem_append_right _ hx)) (fun x hx => hsp x (List.mem_append_right _ hx))
    exact trodAll_cons_mk (WideElems.Trod_stays hl hr.1.1 hr.1.2 h1 (fun x hx => hb.same (hlt x (List.mem_append_left _ hx))) (fun x hx => hsp x (List.mem_append_left _ hx))) ih
theorem law_post {f : Func} {s : ChangeSpec} {W W' : World} {args : Array Value} {ds : List (DataW H)} {before : List MemPlace} (hl : laidOutB P = true) (tb : TypeId) (hu : P.underlying tb = some .bool) (hrt : f.resultTypes = #[tb]) (hv : s.vars = [])
    (hW : DataW.Whole enc P f.params.toList s.vars false W args.toList ds [] before) (hA : DataW.TrodAll enc P W 0 (fun _ => true) true f.params.toList args.toList ds before)
    (hr : (f.params.toList.all fun t => P.readableRec t && decide (t < P.types.size)) = true)
    (h1 : (s.fn H (ds ++ [])).results = [.lit (.bool true)]) (h2 : (s.fn H (ds ++ [])).args = ds) (h3 : (s.fn H (ds ++ [])).vars = []) (hb : Below W.heap.size W W') : s.post enc P f false true false false W args (.bool true) W' := by
  have hlt : ∀ p ∈ before, p.block < W.heap.size := fun p hp => hW.lt p hp
  refine post_of_below (pa := before) (pv := []) hW (fun _ _ _ => ?_) (fun sp hsp => ?_) (fun _ _ => ?_) (by simp) hb ?_
  · rw [h1, hrt]
    exact trodAll_cons_mk (shut_bool hu true) trodAll_mk0
  · rw [h2]
    exact args_stay hl hb _ _ _ _ hr hA hlt hsp
  · rw [h3, hv]; rfl
  · rw [hrt]
    intro j t r ht hr'
    match j with
    | 0 =>
      simp [Value.resultList] at ht hr'
      subst ht; subst hr'
      exact okWide_bool_mk hu true
    | j + 1 => simp at ht
end
end Go.Proofs.YtaafnenmdombiaaGreat
