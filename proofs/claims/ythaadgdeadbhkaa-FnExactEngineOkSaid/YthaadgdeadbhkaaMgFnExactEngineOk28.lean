/-
  AuthScale, AuthConst: reference and program.
-/
import Derived.Test.YthaadgdeadbhkaaMgFnExactEngineOk27
namespace Go.Proofs.Ythaadgdeadbhkaa
open Go.RowKit
set_option linter.unusedVariables false
set_option linter.unusedSimpArgs false
theorem emod_elems {p : Int} (hf : fieldB p = true) {zs : List Int} (h : ∀ z ∈ zs, ∃ y, z = y % p) : elemsB p zs = true := by
  obtain ⟨p2, _⟩ := field_range hf
  refine elemsB_mk hf fun z hz => ?_
  obtain ⟨y, rfl⟩ := h z hz
  exact ⟨Int.emod_nonneg _ (by omega), Int.emod_lt_of_pos _ (by omega)⟩
theorem addS_elems {p : Int} {xs ys : List Int} (hf : fieldB p = true) : elemsB p (addS p xs ys) = true := by
  refine emod_elems hf fun z hz => ?_
  unfold addS at hz
  obtain ⟨i, hi, rfl⟩ := List.mem_iff_getElem.1 hz
  rw [List.getElem_zipWith]
  exact ⟨_, rfl⟩
end Go.Proofs.Ythaadgdeadbhkaa
/-
  MacCheck: reference and program; the sum of keys.
-/
namespace Go.Proofs.Ythaadgdeadbhkaa
open Go.RowKit
set_option linter.unusedVariables false
set_option linter.unusedSimpArgs false
theorem keys_is {k : KM} (h : keysB k = true) : fieldB k.p = true ∧ elemsB k.p k.al = true ∧ 1 ≤ k.al.length ∧ k.al.length ≤ 5 := by
  unfold keysB at h
  rw [Bool.and_eq_true] at h
  have := inQ_is h.2
  exact ⟨(elemsB_is h.1).1, h.1, by omega, by omega⟩
end Go.Proofs.Ythaadgdeadbhkaa
/-
  shared: shares of an element (the program's own helper).
-/
namespace Go.Proofs.Ythaadgdeadbhkaa
open Go.RowKit
set_option linter.unusedVariables false
set_option linter.unusedSimpArgs false
end Go.Proofs.Ythaadgdeadbhkaa
/-
  AuthNew of the program.
-/
namespace Go.Proofs.Ythaadgdeadbhkaa
open Go.RowKit
set_option linter.unusedVariables false
set_option linter.unusedSimpArgs false
def authNew (k : KM) (P s a : Nat) (x : Int) : AuM := ⟨shareL k.p x (tapeL s a P (k.al.length - 1)), shareL k.p ((x * fsum k.p k.al) % k.p) (tapeL s (a + (k.al.length - 1)) P (k.al.length - 1))⟩
end Go.Proofs.Ythaadgdeadbhkaa
/-
  minus, valueIn, copyAuth: the program's helpers.
-/
namespace Go.Proofs.Ythaadgdeadbhkaa
open Go.RowKit
set_option linter.unusedVariables false
set_option linter.unusedSimpArgs false
theorem autF.rd {lo : Nat} {m : AuM} {v : Value} {w : World} (h : autF lo m v w) : AggR w (cauth m) v := by
  obtain ⟨F, h1, _⟩ := h
  exact AggO.rd h1
end Go.Proofs.Ythaadgdeadbhkaa
/-
  Triples: what they read as; TripleUse of the program.
-/
namespace Go.Proofs.Ythaadgdeadbhkaa
open Go.RowKit
set_option linter.unusedVariables false
set_option linter.unusedSimpArgs false
structure TrM where
  a : AuM
  b : AuM
  c : AuM
theorem cints_ty {w : World} {xs : List Int} {F : List Nat} {v : Value} (h : (cints xs).own w F v) : ∀ x ∈ F, ∃ cur z, w.heap[x]? = some (.cells cur 3 z) := by
  obtain ⟨n, vs, Fs, h1, h2, h3, h4, h5⟩ := h
  rw [flat_pl] at h3
  rw [ownAll_pl_eq h3, List.append_nil] at h4
  intro x hx
  rw [h4] at hx
  have hx : v.ownBlock = some x := by simpa using hx
  rcases h2.2 with ⟨e, _⟩ | ⟨g, cap, cur, hv, _, hg, _⟩
  · rw [e] at hx; cases hx
  · rw [hv] at hx
    have : g = x := by simpa [Value.ownBlock] using hx
    subst this
    exact ⟨_, _, hg⟩
theorem autF.far {lo g : Nat} {m : AuM} {v : Value} {w w' : World} {T : TypeId} {cs : Array Value} (h : autF lo m v w) (B : Blk w g T cs) (k : Chg (fun y => y = g) w w') (hT : 3 ≠ T := by decide) : autF lo m v w' := by
  obtain ⟨F, h1, h2⟩ := h
  refine ⟨F, h1.chg k (fun x hx (e : x = g) => ?_), h2⟩
  subst e
  obtain ⟨u0, u1, F0, F1, _, rfl, o0, o1, _⟩ := cauth_oopen h1
  have : ∃ cur z, w.heap[x]? = some (.cells cur 3 z) := by
    simp at hx
    rcases hx with hx | hx
    · exact cints_ty o0 x hx
    · exact cints_ty o1 x hx
  obtain ⟨cur, z, hc⟩ := this
  unfold Blk at B
  rw [B] at hc
  injection hc with hc
  injection hc with _ h3 _
  exact hT h3.symm
end Go.Proofs.Ythaadgdeadbhkaa
