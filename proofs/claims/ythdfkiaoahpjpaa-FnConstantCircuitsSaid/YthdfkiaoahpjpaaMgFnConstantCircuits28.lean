/-
  The program's circuits for words: constants, comparison.
-/
import Derived.Test.YthdfkiaoahpjpaaMgFnConstantCircuits26
import Derived.KernelRfl
import GoSem.ClaimJoined
namespace Go.Proofs.Ythdfkiaoahpjpaa
open Go.RowKit
set_option linter.unusedVariables false
set_option linter.unusedSimpArgs false
end Go.Proofs.Ythdfkiaoahpjpaa
/-
  The dump's head, its first three words apart from the rest: three closed facts on the whole program look at these words alone.
-/
namespace Go.Proofs.Ythdfkiaoahpjpaa
set_option maxRecDepth 100000
theorem ws_word : ∀ (w r : List Char), (w.all fun c => c != Char.ofNat 32) = true → wordsSigns (w ++ Char.ofNat 32 :: r) = w :: wordsSigns r
  | [], r, _ => by rfl
  | c :: w, r, h => by
    simp only [List.all_cons, Bool.and_eq_true, bne_iff_ne] at h
    have ih := ws_word w r h.2
    have hc : ¬ c = Char.ofNat 32 := h.1
    show wordsSigns (c :: (w ++ Char.ofNat 32 :: r)) = _
    rw [wordsSigns, ih]
    exact fun e => hc e
def wHead : List Char := (List.map Char.ofNat [104, 97, 114, 110, 101, 115, 115])
def wSum : List Char := (List.map Char.ofNat [51, 52, 99, 52, 57, 52, 55, 55, 56, 99, 55, 55, 52, 54, 98, 100, 51, 101, 102, 97, 100, 56, 56, 101, 51, 56, 100, 49, 49, 50, 100, 102, 101, 101, 98, 49, 53, 98, 54, 48, 100, 53, 97, 51, 50, 97, 50, 100, 99, 102, 49, 49, 56, 53, 56, 50, 53, 55, 57, 48, 100, 48, 57, 100])
def wCut : List Char := (List.map Char.ofNat [99, 117, 116])
def wRest : List Char := (List.map Char.ofNat [97, 116, 32, 108, 111, 111, 112, 46, 101, 120, 97, 109, 112, 108, 101, 47, 103, 48, 48, 57, 55, 57, 47, 108, 97, 119, 115, 46, 70, 110, 67, 111, 109, 112, 97, 114, 105, 115, 111, 110, 115, 32, 108, 111, 111, 112, 46, 101, 120, 97, 109, 112, 108, 101, 47, 103, 48, 48, 57, 55, 57, 47, 108, 97, 119, 115, 46, 70, 110, 65, 114, 105, 116, 104, 109, 101, 116, 105, 99, 32, 108, 111, 111, 112, 46, 101, 120, 97, 109, 112, 108, 101, 47, 103, 48, 48, 57, 55, 57, 47, 108, 97, 119, 115, 46, 70, 110, 67, 111, 110, 115, 116, 97, 110, 116, 67, 105, 114, 99, 117, 105, 116, 115, 32, 108, 111, 111, 112, 46, 101, 120, 97, 109, 112, 108, 101, 47, 103, 48, 48, 57, 55, 57, 47, 108, 97, 119, 115, 46, 70, 110, 69, 120, 97, 99, 116, 67, 111, 112, 105, 101, 115, 78, 101, 119, 32, 108, 111, 111, 112, 46, 101, 120, 97, 109, 112, 108, 101, 47, 103, 48, 48, 57, 55, 57, 47, 108, 97, 119, 115, 46, 70, 110, 69, 120, 97, 99, 116, 67, 104, 101, 99, 107, 67, 111, 112, 105, 101, 115, 32, 108, 111, 111, 112, 46, 101, 120, 97, 109, 112, 108, 101, 47, 103, 48, 48, 57, 55, 57, 47, 108, 97, 119, 115, 46, 70, 110, 67, 97, 117, 103, 104, 116])
theorem behind_of (h s : List Char) (r : List (List Char)) (hc : ((h == "harness".toList || h == "ownmain".toList) && isSumSigns s) = true) : behindMainWord (h :: s :: r) = r := by
  simp only [behindMainWord, hc, if_true]
theorem initIs : Try.prog.initOrder = String.ofList (wHead ++ Char.ofNat 32 :: (wSum ++ Char.ofNat 32 :: (wCut ++ Char.ofNat 32 :: wRest))) := by kernel_rfl
theorem words : ∃ X, wordsSigns Try.prog.initOrder.toList = wHead :: wSum :: wCut :: X := by
  rw [initIs, String.toList_ofList]
  refine ⟨wordsSigns wRest, ?_⟩
  rw [ws_word _ _ (by as_aux_lemma => kernel_rfl), ws_word _ _ (by as_aux_lemma => kernel_rfl), ws_word _ _ (by as_aux_lemma => kernel_rfl)]
theorem behind : ∃ X, behindMainWord (wordsSigns Try.prog.initOrder.toList) = wCut :: X := by
  obtain ⟨X, h⟩ := words
  refine ⟨X, ?_⟩
  rw [h]
  exact behind_of _ _ _ (by as_aux_lemma => kernel_rfl)
theorem strip (X : List (List Char)) : stripLifts liftWords (wCut :: X) = ([], wCut :: X) := by
  have hc : ∀ o ∈ liftWords, (wCut == o.toList) = false := by as_aux_lemma => exact of_decide_eq_true (by kernel_rfl)
  generalize wCut = c at hc
  generalize liftWords = l at hc
  induction l with
  | nil => rfl
  | cons o os ih =>
    rw [stripLifts, if_neg (by rw [hc o (List.mem_cons_self ..)]; simp)]
    exact ih fun o' ho' => hc o' (List.mem_cons_of_mem _ ho')
theorem c_gc : (wCut == "gc".toList) = false := by as_aux_lemma => kernel_rfl
theorem c_spec : (wCut == "spec".toList) = false := by as_aux_lemma => kernel_rfl
theorem c_carried : (wCut == "carried".toList) = false := by as_aux_lemma => kernel_rfl
theorem c_cut : (wCut == "cut".toList) = true := by as_aux_lemma => kernel_rfl
theorem later : Try.prog.laysLater = false := by as_aux_lemma => kernel_rfl
theorem noReflect : Try.prog.bearsReflect = false := by as_aux_lemma => kernel_rfl
theorem door : Try.prog.doorFits [] = true := by as_aux_lemma => kernel_rfl
theorem mayEnter_of {P : Program} {c : List Char} {X : List (List Char)} (h : behindMainWord (wordsSigns P.initOrder.toList) = c :: X) (hs : stripLifts liftWords (c :: X) = ([], c :: X))
    (h1 : (c == "gc".toList) = false) (h2 : (c == "spec".toList) = false) (h3 : (c == "carried".toList) = false) (h4 : (c == "cut".toList) = true) (l : P.laysLater = false) (r : P.bearsReflect = false) (d : P.doorFits [] = true) : P.mayEnter = true := by
  unfold Program.mayEnter
  rw [h]
  simp only [hs, h1, h2, h3, h4, l, r, d, List.head?_cons, Option.some_beq_some, Bool.false_and, Bool.or_false, Bool.not_false, Bool.or_true, Bool.and_true, List.contains_nil]
theorem mayEnter : Try.prog.mayEnter = true := by
  obtain ⟨X, h⟩ := behind
  exact mayEnter_of h (strip X) c_gc c_spec c_carried c_cut later noReflect door
theorem lifts_of {P : Program} {c : List Char} {X : List (List Char)} (h : behindMainWord (wordsSigns P.initOrder.toList) = c :: X) (hs : stripLifts liftWords (c :: X) = ([], c :: X)) : P.headLifts = [] := by
  unfold Program.headLifts
  rw [h, hs]
  show (if ((([] : List String), c :: X).2.head? == some "cut".toList) = true then [] else []) = []
  split <;> rfl
theorem final_of {P : Program} {c : List Char} {X : List (List Char)} (h : behindMainWord (wordsSigns P.initOrder.toList) = c :: X) (hs : stripLifts liftWords (c :: X) = ([], c :: X)) (h3 : (c == "carried".toList) = false) : P.liftsFinal = false := by
  unfold Program.liftsFinal
  rw [lifts_of h hs, h]
  simp only [List.head?_cons, Option.some_beq_some, h3, Bool.false_and, Bool.false_or, List.contains_nil]
theorem liftsFinal : Try.prog.liftsFinal = false := by
  obtain ⟨X, h⟩ := behind
  exact final_of h (strip X) c_carried
theorem make_of {P : Program} {c : List Char} {X : List (List Char)} (h : behindMainWord (wordsSigns P.initOrder.toList) = c :: X)
    (h1 : (c == "gc".toList) = false) (h2 : (c == "spec".toList) = false) (h4 : (c == "cut".toList) = true) : P.make = some .cut := by
  unfold Program.make
  rw [h]
  simp only [h1, h2, h4, Bool.false_or, Bool.true_or, if_true, Bool.false_eq_true, if_false]
theorem make : Try.prog.make = some .cut := by
  obtain ⟨X, h⟩ := behind
  exact make_of h c_gc c_spec c_cut
end Go.Proofs.Ythdfkiaoahpjpaa
