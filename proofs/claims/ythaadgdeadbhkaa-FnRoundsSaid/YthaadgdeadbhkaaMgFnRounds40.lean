/-
  The engine's run: all its rounds; what it gives when no opening is wrong, and when one is. No program.
-/
import Derived.Test.YthaadgdeadbhkaaMgFnRounds31
import Derived.Test.YthaadgdeadbhkaaMgFnRounds34
import Derived.Test.YthaadgdeadbhkaaMgFnRounds37
import Derived.Test.YthaadgdeadbhkaaMgFnRounds39
import Derived.Test.YthaadgdeadbhkaaMgFnRounds32
import Derived.Test.YthaadgdeadbhkaaMgFnRounds30
namespace Go.Proofs.Ythaadgdeadbhkaa
set_option linter.unusedVariables false
set_option linter.unusedSimpArgs false
section
variable {k : KM} {c : AM} {P s1 s2 : Nat} {ins es : List Int}
theorem mulsOf_at {Q : Nat → AuM → Prop} {r : Nat} {e : EM} (h : At Q k c r e) : mulsOf e = mulsAt c ((r : Int) + 1) := by
  unfold mulsOf; rw [h.ec, h.rd]
theorem mulsOf_n {Q : Nat → AuM → Prop} {r : Nat} {e : EM} (h : At Q k c r e) : (mulsOf e).length = nAt c r := by rw [mulsOf_at h]; rfl
theorem engAt_zero (hf : Fit k c P ins) {Q : Nat → AuM → Prop} (hQ : PC k c Q) (hG : ∀ i a, PG k c ins i a → Q i a) : At Q k c 0 (engAt k c P s1 s2 ins es 0) :=
  ⟨rfl, rfl, rfl, adds_post hQ hf.ok (init_pre hf hG)⟩
theorem trsF (hf : Fit k c P ins) {Q : Nat → AuM → Prop} {r a : Nat} {e : EM} (h : At Q k c r e) : tripG k (trsN k P s2 a (nAt c r)) (mulsOf e).length := by
  rw [mulsOf_n h]; exact trsN_good hf.kb hf.pn
theorem totM_succ (c : AM) (r : Nat) : totM c (r + 1) = totM c r + nAt c r := totTo_next c r
theorem totM_zero (c : AM) : totM c 0 = 0 := by
  unfold totM
  generalize (mdepth c).length = n
  rfl
theorem At.okB {Q : Nat → AuM → Prop} {r : Nat} {e : EM} (hf : Fit k c P ins) (hQ : ∀ i a, Q i a → formB k a = true) (h : At Q k c r e) (hr : (r : Int) ≤ rounds c) : engOkB e = true := by
  obtain ⟨h1, h2, h3, h4⟩ := h
  have hR := rounds_bd c
  unfold engOkB
  rw [h1, h2, h3, hf.kb, arithB_yes hf.ok]
  simp only [Bool.and_eq_true, decide_eq_true_eq, beq_iff_eq, Bool.true_and, List.all_eq_true]
  refine ⟨⟨⟨hf.pp, h4.len⟩, inQ_yes (by omega) (by omega)⟩, fun a ha => ?_⟩
  obtain ⟨i, hi, rfl⟩ := List.getElem_of_mem ha
  have e1 : getA e.vs i = e.vs[i] := by unfold getA; rw [List.getD_eq_getElem?_getD, List.getElem?_eq_getElem hi]; rfl
  unfold okV
  by_cases hd : depAt c i ≤ r
  · have := hQ i _ (h4.lo i (by rw [← h4.len]; exact hi) hd)
    rw [e1] at this
    rw [this, Bool.or_true]
  · have := h4.hi i (by rw [← h4.len]; exact hi) (by omega)
    rw [e1] at this
    rw [this, Bool.true_or]
theorem out_good (hf : Fit k c P ins) {r : Nat} {e : EM} (h : At (PG k c ins) k c r e) (hb : e.bad = false) (hr : (r : Int) = rounds c) : outB e = true ∧ outR e = evR c ins := by
  have hok := h.okB hf (fun i a h => Good.form h) (by omega)
  have hgood : ∀ z ∈ c.outs, Good k (getA e.vs z.toNat) (valAt c ins z.toNat) := fun z hz => by
    have := hf.ok.outs z hz
    have hz' : z.toNat < c.st.length := by
      simp [inB] at this
      omega
    exact h.post.lo _ hz' (by rw [hr]; exact dep_rounds hf.ok hz')
  have hB : outB e = true := by
    unfold outB
    rw [hok, hb, h.ec]
    simp only [Bool.not_false, Bool.true_and, List.all_eq_true]
    intro z hz
    have g := hgood z hz
    unfold out1
    rw [h.ek, form_nz g.form, g.sh, g.check _ g.elem]
    simp
  refine ⟨hB, ?_⟩
  unfold outR
  rw [hB, if_pos rfl, evR_yes ⟨hf.ok, hf.len, hf.el⟩, h.ec, h.ek]
  unfold evOut
  rw [List.take_length]
  refine List.map_congr_left fun z hz => ?_
  exact (hgood z hz).sh
theorem totM_all (hok : AOk c) : totM c (rounds c).toNat = muls c.st c.st.length := tot_is hok (by have := rounds_bd c; omega)
end
end Go.Proofs.Ythaadgdeadbhkaa
/-
  EngineRun of the program: what is known of its rounds, ahead of the walk.
-/
namespace Go.Proofs.Ythaadgdeadbhkaa
open Go.RowKit
set_option linter.unusedVariables false
set_option linter.unusedSimpArgs false
theorem Fit.of {k : KM} {c : AM} {P : Nat} {ins : List Int} {s a : Int} (h : newB k c ins s a = true) (hP : k.p = P) : Fit k c P ins := by
  obtain ⟨h1, h2, h3, h4, h5, _⟩ := newB_is h
  exact ⟨h1, h2, h3, hP, h4, h5⟩
theorem twf_new {k : KM} {P s a : Nat} (hk : keysB k = true) : twf (tripleNew k P s a) := by
  obtain ⟨_, _, n1, n5⟩ := keys_is hk
  refine ⟨⟨?_, ?_⟩, ⟨?_, ?_⟩, ⟨?_, ?_⟩⟩ <;> (unfold tripleNew authNew; simp only; rw [shareL_len, tapeL_len]; omega)
theorem twf_trs {k : KM} {P s a n : Nat} (hk : keysB k = true) : ∀ x ∈ trsN k P s a n, twf x := by
  intro x hx
  unfold trsN at hx
  obtain ⟨i, _, rfl⟩ := List.mem_map.1 hx
  exact twf_new hk
theorem ewf_round {m : EM} {ts : List TrM} {es : List Int} (h : ewf m) (ht : ∀ x ∈ ts, twf x) (hop : m.op.length + 120 ≤ 1048576) (hrd : m.rd ≤ 60) : ewf (engRound m ts es) ∧ (engRound m ts es).op.length ≤ m.op.length + 120 := by
  unfold engRound
  split
  · rename_i hm
    obtain ⟨h1, h2, h3, h4, h5, h6⟩ := mayB_is hm
    obtain ⟨f1, f2, f3, f4, f5⟩ := roundTo_fix m ts es (mulsOf m) (mulsOf m).length
    have hfew : (mulsOf m).length ≤ 60 := mulsAt_few _ _
    have hR := h.rd
    refine ⟨⟨?_, ?_, ?_, ?_, ?_, ?_⟩, ?_⟩
    · show kwf (roundTo m ts es (mulsOf m) (mulsOf m).length).k; rw [f1]; exact h.k
    · show amwf (roundTo m ts es (mulsOf m) (mulsOf m).length).c; rw [f2]; exact h.c
    · exact adds_awf (roundTo_awf h.vs ht _ h4) _
    · show (addsTo _ _ _ _).length ≤ _; rw [addsTo_len, f4]; exact h.n
    · show (roundTo m ts es (mulsOf m) (mulsOf m).length).op.length ≤ _; rw [f5]; omega
    · show i64w (m.rd + 1)
      unfold i64w at hR ⊢
      omega
    · show (roundTo m ts es (mulsOf m) (mulsOf m).length).op.length ≤ _; rw [f5]; omega
  · exact ⟨h, by omega⟩
theorem ewf_new {k : KM} {c : AM} {P s : Nat} {ins : List Int} (hf : Fit k c P ins) (wk : kwf k) (wc : amwf c) : ewf (engNew k c P s ins) := by
  refine ⟨wk, wc, adds_awf (awf_initL hf.kb) _, ?_, by simp [engNew], by simp [engNew, i64w]⟩
  show (addsTo _ _ _ _).length ≤ _
  rw [addsTo_len, initL_len]
  exact wc.st
theorem totM_bd {c : AM} (hok : AOk c) {r : Nat} (hr : (r : Int) ≤ rounds c) : totM c r ≤ 60 := by
  have h1 : totM c r ≤ totM c (rounds c).toNat := totTo_le c (by omega)
  rw [totM_all hok] at h1
  have h2 := muls_le c.st c.st.length
  have := hok.few
  omega
theorem trW_bd {k : KM} (hk : keysB k = true) : trW k ≤ 26 := by
  obtain ⟨_, _, n1, n5⟩ := keys_is hk
  unfold trW
  omega
theorem Ints.part {w : World} {b o n : Nat} {zs : List Int} (h : Ints w (some ⟨b, o, none⟩) n zs) {x m : Nat} (hk : x + m ≤ n) : Ints w (some ⟨b, o + x, none⟩) m ((zs.drop x).take m) := by
  have hl := h.len
  refine ⟨by simp; omega, fun hp => ?_⟩
  obtain ⟨b', o', e, hb, hc⟩ := h.at_ (by omega)
  injection e with e
  injection e with e1 e2 _
  subst e1; subst e2
  refine ⟨b, o + x, rfl, hb, fun j hj => ?_⟩
  rw [show o + x + j = o + (x + j) by omega, hc (x + j) (by omega), List.getElem?_map, List.getElem?_take, if_pos (by omega), List.getElem?_drop, List.getElem?_eq_getElem (by omega), getI _ _ (by omega)]
  rfl
theorem Ints.none' {w : World} {A : Option Addr} : Ints w A 0 [] := ⟨by simp, fun h => by omega⟩
end Go.Proofs.Ythaadgdeadbhkaa
/-
  EngineRun of the program.
-/
namespace Go.Proofs.Ythaadgdeadbhkaa
open Go.RowKit
set_option linter.unusedVariables false
set_option linter.unusedSimpArgs false
theorem Ints.cut {w : World} {A : Option Addr} {n : Nat} {zs : List Int} (h : Ints w A n zs) {x m : Nat} (hk : x + m ≤ n) : Ints w (A.map fun a => a.add x) m ((zs.drop x).take m) := by
  by_cases hm : m = 0
  · subst hm; rw [List.take_zero]; exact Ints.none'
  · obtain ⟨b, o, rfl, _⟩ := h.at_ (by omega)
    have hadd : (⟨b, o, none⟩ : Addr).add x = ⟨b, o + x, none⟩ := by unfold Addr.add; split <;> simp_all
    rw [Option.map_some, hadd]
    exact h.part hk
theorem aggF.eng {lo : Nat} {m : EM} {v : Value} {w : World} (h : aggF lo (cengine m) v w) : ∃ A B C D E a b c d e, v = .agg #[.int .i64 m.k.p, .slice A m.k.al.length a, .int .i64 m.c.p, .slice B m.c.st.length b, .slice C m.c.outs.length c, .slice D m.vs.length d, .slice E m.op.length e, .int .i64 m.rd, .bool m.bad] := by
  obtain ⟨F, h1, _⟩ := h
  obtain ⟨A, B, C, D, E, a, b, c, d, e, hv, _⟩ := cengine_open h1.rd
  exact ⟨A, B, C, D, E, a, b, c, d, e, hv⟩
theorem aggF.far {lo g : Nat} {m : EM} {v : Value} {w w' : World} {T : TypeId} {cs : Array Value} (h : aggF lo (cengine m) v w) (B : Blk w g T cs) (k : Chg (fun y => y = g) w w') (hT : T ∉ [3, 95, 44]) : aggF lo (cengine m) v w' := by
  obtain ⟨F, h1, h2⟩ := h
  have hg := agg_ty (cengine_ty m) h1 B hT
  exact ⟨F, h1.chg k (fun x hx e => hg (e ▸ hx)), h2⟩
theorem chgA {S : Nat → Prop} (w : World) (o : Obj) : Chg S w (w.alloc o) := Chg.of (gbA (gbR w none) o) (by simp)
theorem own_blk_ne9 {w : World} {base s n g : Nat} {e T : TypeId} {v : Value} {xs : List Value} {cs : Array Value} (h : w.ownsRow base e s v n xs) (k : Blk w g T cs) (hne : e ≠ T) : v.ownBlock ≠ some g := by
  intro hv
  rcases h.2 with ⟨h1, _⟩ | ⟨g1, cap, cur, hv1, _, hg, _⟩
  · rw [h1] at hv; cases hv
  · rw [hv1] at hv
    have : g1 = g := by simpa [Value.ownBlock] using hv
    subst this
    unfold Blk at k
    rw [k] at hg
    injection hg with hg
    injection hg with _ h2 _
    exact hne h2.symm
theorem SOF.typ {m : EM} {g : Nat} {F : List Nat} {w w' : World} {S : Nat → Prop} (h : SOF 36 (cengine m) g F w) (k : Chg S w w') (hS : ∀ y, S y → y < w.heap.size → ∃ T us, Blk w y T us ∧ T ∉ [3, 95, 44] ∧ T ≠ 36) : SOF 36 (cengine m) g F w' := by
  have hlt := h.lt
  have hltg := h.ltg
  obtain ⟨vs, h1, h2⟩ := h.agg
  refine h.chg k (fun x hx hs => ?_) (fun hs => ?_)
  · obtain ⟨T, us, B, hT, _⟩ := hS x hs (hlt x hx)
    exact agg_ty (cengine_ty m) h2 B hT hx
  · obtain ⟨T, us, B, _, hT⟩ := hS g hs hltg
    unfold Blk at B h1
    rw [B] at h1
    injection h1 with h1
    injection h1 with _ h4 _
    exact hT h4
end Go.Proofs.Ythaadgdeadbhkaa
