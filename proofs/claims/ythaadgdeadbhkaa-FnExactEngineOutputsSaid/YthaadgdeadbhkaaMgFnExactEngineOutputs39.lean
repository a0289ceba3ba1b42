/-
  The engine in rounds: forms and values behind each round; wrong openings. No program.
-/
import Derived.Test.YthaadgdeadbhkaaMgFnExactEngineOutputs38
namespace Go.Proofs.Ythaadgdeadbhkaa
set_option linter.unusedVariables false
set_option linter.unusedSimpArgs false
structure Fit (k : KM) (c : AM) (P : Nat) (ins : List Int) : Prop where
  kb : keysB k = true
  ok : AOk c
  pp : k.p = c.p
  pn : k.p = P
  len : ins.length = 60
  el : elemsB c.p ins = true
theorem Fit.fld {k : KM} {c : AM} {P : Nat} {ins : List Int} (h : Fit k c P ins) : fieldB k.p = true := (keys_is h.kb).1
structure At (Q : Nat → AuM → Prop) (k : KM) (c : AM) (r : Nat) (e : EM) : Prop where
  ek : e.k = k
  ec : e.c = c
  rd : e.rd = r
  post : Post Q c r e.vs
theorem At.next {Q : Nat → AuM → Prop} {k : KM} {c : AM} {P r : Nat} {ins : List Int} {e : EM} (hf : Fit k c P ins) (hQ : PC k c Q) (h : At Q k c r e) {ts : List TrM} {es : List Int}
    (hm : ∀ j, j < (mulsOf e).length → Q ((mulsOf e).getD j 0).toNat (tripleUse e.k (trAt ts j) (rD e (trAt ts j) (errAt es (2 * j)) ((mulsOf e).getD j 0).toNat) (rE e (trAt ts j) (errAt es (2 * j + 1)) ((mulsOf e).getD j 0).toNat))) : At Q k c (r + 1) (roundEnd e (roundTo e ts es (mulsOf e) (mulsOf e).length)) := by
  obtain ⟨h1, h2, h3, h4⟩ := h
  have hfix := roundTo_fix e ts es (mulsOf e) (mulsOf e).length
  have hp := round_post (e := e) (P := Q) (ts := ts) (es := es) (r := r) (by rw [h1, h2]; exact hQ) (by rw [h2]; exact hf.ok) h3 (by rw [h2]; exact h4) hm
  refine ⟨hfix.1.trans h1, hfix.2.1.trans h2, ?_, by rw [← h2]; exact hp⟩
  show e.rd + 1 = _
  rw [h3]; rfl
end Go.Proofs.Ythaadgdeadbhkaa
