/-
  The values that EngineNew fills in, place by place; a new list of Auths.
-/
import Derived.Test.YthaadgdeadbhkaaMgFnCosts22
import Derived.Test.YthaadgdeadbhkaaMgFnCosts24
namespace Go.Proofs.Ythaadgdeadbhkaa
open Go.RowKit
set_option linter.unusedVariables false
set_option linter.unusedSimpArgs false
theorem cints_nil (w : World) : (cints []).own w [] (.slice none 0 0) := cints_own (World.ownsRow_nil w 0 _ 1)
def valF (lo n : Nat) (v : Value) (w : World) : Prop := ∃ g, v = .slice (some ⟨g, 0, none⟩) n n ∧ lo ≤ g ∧ (cauths (List.replicate n noA)).own w [g] v
def engN (k : KM) (c : AM) (n : Nat) : EM := ⟨k, c, List.replicate n noA, [], 0, false⟩
def engZ (lo : Nat) (m : EM) (u : Value) (w : World) : Prop := ∃ A n c B q d C r e D o i, u = .agg #[.int .i64 m.k.p, .slice A n c, .int .i64 m.c.p, .slice B q d, .slice C r e, .slice D o i, .slice none 0 0, .int .i64 m.rd, .bool m.bad] ∧ aggF lo (cengine m) (.agg #[.int .i64 m.k.p, .slice A n c, .int .i64 m.c.p, .slice B q d, .slice C r e, .slice D o i, .slice none 0 0, .int .i64 m.rd, .bool m.bad]) w
theorem engZ.grow {lo : Nat} {m : EM} {u : Value} {w w' : World} (h : engZ lo m u w) (hg : w.grownBy w' none) : engZ lo m u w' := by
  obtain ⟨A, n, c, B, q, d, C, r, e, E, o, i, e1, h1⟩ := h
  exact ⟨A, n, c, B, q, d, C, r, e, E, o, i, e1, h1.grow hg⟩
theorem ka_ty (k : KM) (m : AM) : ∀ c ∈ ckeys k ++ carith m, tyd [3, 95] c := by
  intro c hc
  simp only [List.mem_cons, List.mem_append, List.not_mem_nil, or_false] at hc
  rcases hc with (rfl | rfl) | rfl | rfl | rfl
  · exact tyd_pl
  · exact tyd_plst (by simp)
  · exact tyd_pl
  · exact tyd_plst (by simp)
  · exact tyd_plst (by simp)
theorem engZ.of {lo n : Nat} {k : KM} {c : AM} {u v x : Value} {w : World} (h : keyArL lo k c u v w) (hv : valF lo n x w) : ∃ A n1 c1 B q d C r e g, u = .agg #[.int .i64 k.p, .slice A n1 c1] ∧ v = .agg #[.int .i64 c.p, .slice B q d, .slice C r e] ∧ x = .slice (some ⟨g, 0, none⟩) n n ∧ engZ lo (engN k c n) (.agg #[.int .i64 k.p, .slice A n1 c1, .int .i64 c.p, .slice B q d, .slice C r e, .slice (some ⟨g, 0, none⟩) n n, .slice none 0 0, .int .i64 0, .bool false]) w := by
  obtain ⟨A, n1, c1, B, q, d, C, r, e, rfl, rfl, Fs, h1, h2⟩ := h
  obtain ⟨g, rfl, hg, hv⟩ := hv
  have hgT : ∃ cur z, w.heap[g]? = some (.cells cur 44 z) := by
    obtain ⟨n', vs, Gs, a1, a2, a3, a4, a5⟩ := hv
    rcases a2.2 with ⟨e, _⟩ | ⟨g', cap, cur, e, _, e1, _⟩
    · cases e
    · injection e with e
      injection e with e
      injection e with e
      subst e
      exact ⟨_, _, e1⟩
  have hdis : g ∉ Fs.flatten := by
    intro hx
    obtain ⟨cur, T, z, e1, e2⟩ := ownAll_ty h1 (ka_ty k c) g hx
    obtain ⟨cur', z', e3⟩ := hgT
    rw [e3] at e1
    injection e1 with e1
    injection e1 with _ e1 _
    rw [← e1] at e2
    revert e2
    decide
  have hz : OwnAll w [ci 0, cb false] [.int .i64 0, .bool false] [[], []] := OwnAll.cons (ci_own w 0) (OwnAll.cons (cb_own w false) (OwnAll.nil _) (by simp)) (by simp)
  have h5 : OwnAll w [cauths (List.replicate n noA), cints [], ci 0, cb false] [.slice (some ⟨g, 0, none⟩) n n, .slice none 0 0, .int .i64 0, .bool false] [[g], [], [], []] := OwnAll.cons hv (OwnAll.cons (cints_nil w) hz (by simp)) (by simp)
  have h6 := h1.append h5 (fun y hy hy' => by
    simp at hy'
    subst hy'
    exact hdis hy)
  refine ⟨A, n1, c1, B, q, d, C, r, e, g, rfl, rfl, rfl, A, n1, c1, B, q, d, C, r, e, _, _, _, rfl, _, ⟨_, _, rfl, h6, rfl⟩, fun y hy => ?_⟩
  rw [List.flatten_append] at hy
  rcases List.mem_append.1 hy with hy | hy
  · exact h2 y hy
  · simp at hy
    omega
end Go.Proofs.Ythaadgdeadbhkaa
/-
  EngineNew of the program: where it gives nothing.
-/
namespace Go.Proofs.Ythaadgdeadbhkaa
open Go.RowKit
set_option linter.unusedVariables false
set_option linter.unusedSimpArgs false
noncomputable def newB (k : KM) (c : AM) (ins : List Int) (s a : Int) : Bool := keysB k && arithB c && (k.p == c.p) && ((ins.length : Int) == 60) && elemsB c.p ins && tapeB s a && !decide (900000 < a)
end Go.Proofs.Ythaadgdeadbhkaa
/-
  EngineNew of the program: where it gives an engine.
-/
namespace Go.Proofs.Ythaadgdeadbhkaa
open Go.RowKit
set_option linter.unusedVariables false
set_option linter.unusedSimpArgs false
theorem newB_is {k : KM} {c : AM} {ins : List Int} {s a : Int} (h : newB k c ins s a = true) : keysB k = true ∧ AOk c ∧ k.p = c.p ∧ ins.length = 60 ∧ elemsB c.p ins = true ∧ tapeB s a = true ∧ a ≤ 900000 := by
  unfold newB at h
  simp only [Bool.and_eq_true, beq_iff_eq, Bool.not_eq_true', decide_eq_false_iff_not] at h
  obtain ⟨⟨⟨⟨⟨⟨h1, h2⟩, h3⟩, h4⟩, h5⟩, h6⟩, h7⟩ := h
  exact ⟨h1, arithB_is h2, h3, by omega, h5, h6, by omega⟩
theorem awf_initV {k : KM} {c : AM} {P s : Nat} {ins : List Int} (hk : keysB k = true) (i : Nat) : awf (initV k c P s ins i) := by
  obtain ⟨_, _, n1, n5⟩ := keys_is hk
  unfold initV
  split
  · refine ⟨?_, ?_⟩ <;> (unfold authNew; simp only; rw [shareL_len, tapeL_len]; omega)
  · split
    · exact awf_const ⟨by simp [zerosA]; omega, by simp [zerosA]; omega⟩
    · exact awf_no
theorem awf_initL {k : KM} {c : AM} {P s : Nat} {ins : List Int} (hk : keysB k = true) : ∀ a ∈ initL k c P s ins, awf a := by
  intro a ha
  unfold initL at ha
  obtain ⟨i, _, rfl⟩ := List.mem_map.1 ha
  exact awf_initV hk i
def aTupE (lo : Nat) (m : AuM) (v : Value) (w : World) : Prop := ∃ t, aTup lo m t v w
theorem aTupE_st {lo : Nat} {m : AuM} : stable (aTupE lo m) := fun v w w' ⟨t, h⟩ hg => ⟨t, aTup_st _ _ _ h hg⟩
theorem aTupE_chg {lo g : Nat} {m : AuM} {v : Value} {w w' : World} (h : aTupE lo m v w) (q : Chg (fun y => y = g) w w') (hg : g < lo) : aTupE lo m v w' := by
  obtain ⟨t, h⟩ := h
  exact ⟨t, aTup_chg h q hg⟩
def zroF (n : Nat) (v : Value) (w : World) : Prop := ∃ A c B d, v = .agg #[.slice A n c, .slice B n d] ∧ AggR w (cauth (zerosA n)) (.agg #[.slice A n c, .slice B n d])
theorem zroF_st {n : Nat} : stable (zroF n) := fun v w w' ⟨A, c, B, d, h1, h2⟩ hg => ⟨A, c, B, d, h1, h2.grow hg⟩
theorem zroF.of {lo lo' n : Nat} {A B : Option Addr} {c d : Nat} {w : World} (h : w.ownsRow lo 3 1 (.slice A n c) n ((List.replicate n 0).map (Value.int .i64))) (k : w.ownsRow lo' 3 1 (.slice B n d) n ((List.replicate n 0).map (Value.int .i64))) : zroF n (.agg #[.slice A n c, .slice B n d]) w :=
  ⟨A, c, B, d, rfl, cauth_mk (CS.toRd _ (cints_own h)) (CS.toRd _ (cints_own k))⟩
end Go.Proofs.Ythaadgdeadbhkaa
/-
  The engine's run: all its rounds; what it gives when no opening is wrong, and when one is. No program.
-/
namespace Go.Proofs.Ythaadgdeadbhkaa
set_option linter.unusedVariables false
set_option linter.unusedSimpArgs false
section
variable {k : KM} {c : AM} {P s1 s2 : Nat} {ins es : List Int}
theorem mulsOf_at {Q : Nat → AuM → Prop} {r : Nat} {e : EM} (h : At Q k c r e) : mulsOf e = mulsAt c ((r : Int) + 1) := by
  unfold mulsOf; rw [h.ec, h.rd]
theorem mulsOf_n {Q : Nat → AuM → Prop} {r : Nat} {e : EM} (h : At Q k c r e) : (mulsOf e).length = nAt c r := by rw [mulsOf_at h]; rfl
theorem engAt_zero (hf : Fit k c P ins) {Q : Nat → AuM → Prop} (hQ : PC k c Q) (hG : ∀ i a, PG k c ins i a → Q i a) : At Q k c 0 (engAt k c P s1 s2 ins es 0) :=
  ⟨rfl, rfl, rfl, adds_post hQ hf.ok (init_pre hf hG)⟩
theorem trsF (hf : Fit k c P ins) {Q : Nat → AuM → Prop} {r a : Nat} {e : EM} (h : At Q k c r e) : tripG k (trsN k P s2 a (nAt c r)) (mulsOf e).length := by
  rw [mulsOf_n h]; exact trsN_good hf.kb hf.pn
theorem totM_succ (c : AM) (r : Nat) : totM c (r + 1) = totM c r + nAt c r := totTo_next c r
theorem totM_zero (c : AM) : totM c 0 = 0 := by
  unfold totM
  generalize (mdepth c).length = n
  rfl
theorem At.okB {Q : Nat → AuM → Prop} {r : Nat} {e : EM} (hf : Fit k c P ins) (hQ : ∀ i a, Q i a → formB k a = true) (h : At Q k c r e) (hr : (r : Int) ≤ rounds c) : engOkB e = true := by
  obtain ⟨h1, h2, h3, h4⟩ := h
  have hR := rounds_bd c
  unfold engOkB
  rw [h1, h2, h3, hf.kb, arithB_yes hf.ok]
  simp only [Bool.and_eq_true, decide_eq_true_eq, beq_iff_eq, Bool.true_and, List.all_eq_true]
  refine ⟨⟨⟨hf.pp, h4.len⟩, inQ_yes (by omega) (by omega)⟩, fun a ha => ?_⟩
  obtain ⟨i, hi, rfl⟩ := List.getElem_of_mem ha
  have e1 : getA e.vs i = e.vs[i] := by unfold getA; rw [List.getD_eq_getElem?_getD, List.getElem?_eq_getElem hi]; rfl
  unfold okV
  by_cases hd : depAt c i ≤ r
  · have := hQ i _ (h4.lo i (by rw [← h4.len]; exact hi) hd)
    rw [e1] at this
    rw [this, Bool.or_true]
  · have := h4.hi i (by rw [← h4.len]; exact hi) (by omega)
    rw [e1] at this
    rw [this, Bool.true_or]
theorem out_good (hf : Fit k c P ins) {r : Nat} {e : EM} (h : At (PG k c ins) k c r e) (hb : e.bad = false) (hr : (r : Int) = rounds c) : outB e = true ∧ outR e = evR c ins := by
  have hok := h.okB hf (fun i a h => Good.form h) (by omega)
  have hgood : ∀ z ∈ c.outs, Good k (getA e.vs z.toNat) (valAt c ins z.toNat) := fun z hz => by
    have := hf.ok.outs z hz
    have hz' : z.toNat < c.st.length := by
      simp [inB] at this
      omega
    exact h.post.lo _ hz' (by rw [hr]; exact dep_rounds hf.ok hz')
  have hB : outB e = true := by
    unfold outB
    rw [hok, hb, h.ec]
    simp only [Bool.not_false, Bool.true_and, List.all_eq_true]
    intro z hz
    have g := hgood z hz
    unfold out1
    rw [h.ek, form_nz g.form, g.sh, g.check _ g.elem]
    simp
  refine ⟨hB, ?_⟩
  unfold outR
  rw [hB, if_pos rfl, evR_yes ⟨hf.ok, hf.len, hf.el⟩, h.ec, h.ek]
  unfold evOut
  rw [List.take_length]
  refine List.map_congr_left fun z hz => ?_
  exact (hgood z hz).sh
theorem totM_all (hok : AOk c) : totM c (rounds c).toNat = muls c.st c.st.length := tot_is hok (by have := rounds_bd c; omega)
end
end Go.Proofs.Ythaadgdeadbhkaa
/-
  EngineRun of the program: what is known of its rounds, ahead of the walk.
-/
namespace Go.Proofs.Ythaadgdeadbhkaa
open Go.RowKit
set_option linter.unusedVariables false
set_option linter.unusedSimpArgs false
theorem Fit.of {k : KM} {c : AM} {P : Nat} {ins : List Int} {s a : Int} (h : newB k c ins s a = true) (hP : k.p = P) : Fit k c P ins := by
  obtain ⟨h1, h2, h3, h4, h5, _⟩ := newB_is h
  exact ⟨h1, h2, h3, hP, h4, h5⟩
theorem twf_new {k : KM} {P s a : Nat} (hk : keysB k = true) : twf (tripleNew k P s a) := by
  obtain ⟨_, _, n1, n5⟩ := keys_is hk
  refine ⟨⟨?_, ?_⟩, ⟨?_, ?_⟩, ⟨?_, ?_⟩⟩ <;> (unfold tripleNew authNew; simp only; rw [shareL_len, tapeL_len]; omega)
theorem twf_trs {k : KM} {P s a n : Nat} (hk : keysB k = true) : ∀ x ∈ trsN k P s a n, twf x := by
  intro x hx
  unfold trsN at hx
  obtain ⟨i, _, rfl⟩ := List.mem_map.1 hx
  exact twf_new hk
theorem ewf_round {m : EM} {ts : List TrM} {es : List Int} (h : ewf m) (ht : ∀ x ∈ ts, twf x) (hop : m.op.length + 120 ≤ 1048576) (hrd : m.rd ≤ 60) : ewf (engRound m ts es) ∧ (engRound m ts es).op.length ≤ m.op.length + 120 := by
  unfold engRound
  split
  · rename_i hm
    obtain ⟨h1, h2, h3, h4, h5, h6⟩ := mayB_is hm
    obtain ⟨f1, f2, f3, f4, f5⟩ := roundTo_fix m ts es (mulsOf m) (mulsOf m).length
    have hfew : (mulsOf m).length ≤ 60 := mulsAt_few _ _
    have hR := h.rd
    refine ⟨⟨?_, ?_, ?_, ?_, ?_, ?_⟩, ?_⟩
    · show kwf (roundTo m ts es (mulsOf m) (mulsOf m).length).k; rw [f1]; exact h.k
    · show amwf (roundTo m ts es (mulsOf m) (mulsOf m).length).c; rw [f2]; exact h.c
    · exact adds_awf (roundTo_awf h.vs ht _ h4) _
    · show (addsTo _ _ _ _).length ≤ _; rw [addsTo_len, f4]; exact h.n
    · show (roundTo m ts es (mulsOf m) (mulsOf m).length).op.length ≤ _; rw [f5]; omega
    · show i64w (m.rd + 1)
      unfold i64w at hR ⊢
      omega
    · show (roundTo m ts es (mulsOf m) (mulsOf m).length).op.length ≤ _; rw [f5]; omega
  · exact ⟨h, by omega⟩
theorem ewf_new {k : KM} {c : AM} {P s : Nat} {ins : List Int} (hf : Fit k c P ins) (wk : kwf k) (wc : amwf c) : ewf (engNew k c P s ins) := by
  refine ⟨wk, wc, adds_awf (awf_initL hf.kb) _, ?_, by simp [engNew], by simp [engNew, i64w]⟩
  show (addsTo _ _ _ _).length ≤ _
  rw [addsTo_len, initL_len]
  exact wc.st
theorem totM_bd {c : AM} (hok : AOk c) {r : Nat} (hr : (r : Int) ≤ rounds c) : totM c r ≤ 60 := by
  have h1 : totM c r ≤ totM c (rounds c).toNat := totTo_le c (by omega)
  rw [totM_all hok] at h1
  have h2 := muls_le c.st c.st.length
  have := hok.few
  omega
theorem trW_bd {k : KM} (hk : keysB k = true) : trW k ≤ 26 := by
  obtain ⟨_, _, n1, n5⟩ := keys_is hk
  unfold trW
  omega
theorem Ints.part {w : World} {b o n : Nat} {zs : List Int} (h : Ints w (some ⟨b, o, none⟩) n zs) {x m : Nat} (hk : x + m ≤ n) : Ints w (some ⟨b, o + x, none⟩) m ((zs.drop x).take m) := by
  have hl := h.len
  refine ⟨by simp; omega, fun hp => ?_⟩
  obtain ⟨b', o', e, hb, hc⟩ := h.at_ (by omega)
  injection e with e
  injection e with e1 e2 _
  subst e1; subst e2
  refine ⟨b, o + x, rfl, hb, fun j hj => ?_⟩
  rw [show o + x + j = o + (x + j) by omega, hc (x + j) (by omega), List.getElem?_map, List.getElem?_take, if_pos (by omega), List.getElem?_drop, List.getElem?_eq_getElem (by omega), getI _ _ (by omega)]
  rfl
theorem Ints.none' {w : World} {A : Option Addr} : Ints w A 0 [] := ⟨by simp, fun h => by omega⟩
end Go.Proofs.Ythaadgdeadbhkaa
/-
  EngineRun of the program.
-/
namespace Go.Proofs.Ythaadgdeadbhkaa
open Go.RowKit
set_option linter.unusedVariables false
set_option linter.unusedSimpArgs false
theorem Ints.cut {w : World} {A : Option Addr} {n : Nat} {zs : List Int} (h : Ints w A n zs) {x m : Nat} (hk : x + m ≤ n) : Ints w (A.map fun a => a.add x) m ((zs.drop x).take m) := by
  by_cases hm : m = 0
  · subst hm; rw [List.take_zero]; exact Ints.none'
  · obtain ⟨b, o, rfl, _⟩ := h.at_ (by omega)
    have hadd : (⟨b, o, none⟩ : Addr).add x = ⟨b, o + x, none⟩ := by unfold Addr.add; split <;> simp_all
    rw [Option.map_some, hadd]
    exact h.part hk
theorem aggF.eng {lo : Nat} {m : EM} {v : Value} {w : World} (h : aggF lo (cengine m) v w) : ∃ A B C D E a b c d e, v = .agg #[.int .i64 m.k.p, .slice A m.k.al.length a, .int .i64 m.c.p, .slice B m.c.st.length b, .slice C m.c.outs.length c, .slice D m.vs.length d, .slice E m.op.length e, .int .i64 m.rd, .bool m.bad] := by
  obtain ⟨F, h1, _⟩ := h
  obtain ⟨A, B, C, D, E, a, b, c, d, e, hv, _⟩ := cengine_open h1.rd
  exact ⟨A, B, C, D, E, a, b, c, d, e, hv⟩
theorem aggF.far {lo g : Nat} {m : EM} {v : Value} {w w' : World} {T : TypeId} {cs : Array Value} (h : aggF lo (cengine m) v w) (B : Blk w g T cs) (k : Chg (fun y => y = g) w w') (hT : T ∉ [3, 95, 44]) : aggF lo (cengine m) v w' := by
  obtain ⟨F, h1, h2⟩ := h
  have hg := agg_ty (cengine_ty m) h1 B hT
  exact ⟨F, h1.chg k (fun x hx e => hg (e ▸ hx)), h2⟩
theorem chgA {S : Nat → Prop} (w : World) (o : Obj) : Chg S w (w.alloc o) := Chg.of (gbA (gbR w none) o) (by simp)
theorem own_blk_ne9 {w : World} {base s n g : Nat} {e T : TypeId} {v : Value} {xs : List Value} {cs : Array Value} (h : w.ownsRow base e s v n xs) (k : Blk w g T cs) (hne : e ≠ T) : v.ownBlock ≠ some g := by
  intro hv
  rcases h.2 with ⟨h1, _⟩ | ⟨g1, cap, cur, hv1, _, hg, _⟩
  · rw [h1] at hv; cases hv
  · rw [hv1] at hv
    have : g1 = g := by simpa [Value.ownBlock] using hv
    subst this
    unfold Blk at k
    rw [k] at hg
    injection hg with hg
    injection hg with _ h2 _
    exact hne h2.symm
theorem SOF.typ {m : EM} {g : Nat} {F : List Nat} {w w' : World} {S : Nat → Prop} (h : SOF 36 (cengine m) g F w) (k : Chg S w w') (hS : ∀ y, S y → y < w.heap.size → ∃ T us, Blk w y T us ∧ T ∉ [3, 95, 44] ∧ T ≠ 36) : SOF 36 (cengine m) g F w' := by
  have hlt := h.lt
  have hltg := h.ltg
  obtain ⟨vs, h1, h2⟩ := h.agg
  refine h.chg k (fun x hx hs => ?_) (fun hs => ?_)
  · obtain ⟨T, us, B, hT, _⟩ := hS x hs (hlt x hx)
    exact agg_ty (cengine_ty m) h2 B hT hx
  · obtain ⟨T, us, B, _, hT⟩ := hS g hs hltg
    unfold Blk at B h1
    rw [B] at h1
    injection h1 with h1
    injection h1 with _ h4 _
    exact hT h4
theorem isV_w {x v : Value} {w w' : World} (h : isV x v w) : isV x v w' := h
end Go.Proofs.Ythaadgdeadbhkaa
