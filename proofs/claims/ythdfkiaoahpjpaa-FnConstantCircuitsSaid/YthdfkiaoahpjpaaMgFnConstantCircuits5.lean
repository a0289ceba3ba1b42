/-
  Rows whose elements hold rows: what they read as (RdC), and rows of the call's own whose inner rows are its own, each in a block of its own (OwnC). Changes that touch some blocks alone (Chg). append of a slice.
-/
import Derived.Test.YthdfkiaoahpjpaaMgFnConstantCircuits4
namespace Go.Proofs.Ythdfkiaoahpjpaa
open Go.RowKit
set_option linter.unusedVariables false
set_option linter.unusedSimpArgs false
structure Chg (S : Nat → Prop) (w w' : World) : Prop where
  os : w'.os = w.os
  tape : w'.tape = w.tape
  output : w'.output = w.output
  size : w.heap.size ≤ w'.heap.size
  block : ∀ i, i < w.heap.size → ¬ S i → w'.heap[i]? = w.heap[i]?
theorem Chg.refl (S : Nat → Prop) (w : World) : Chg S w w := ⟨rfl, rfl, rfl, Nat.le_refl _, fun _ _ _ => rfl⟩
theorem Chg.trans {S : Nat → Prop} {a b c : World} (h : Chg S a b) (k : Chg S b c) : Chg S a c :=
  ⟨k.os.trans h.os, k.tape.trans h.tape, k.output.trans h.output, Nat.le_trans h.size k.size, fun i hi hs => (k.block i (Nat.lt_of_lt_of_le hi h.size) hs).trans (h.block i hi hs)⟩
theorem Chg.of {S : Nat → Prop} {a b : World} {r : Option Nat} (h : a.grownBy b r) (hr : ∀ g, r = some g → S g) : Chg S a b :=
  ⟨h.os, h.tape, h.output, h.size, fun i hi hs => h.block i hi fun e => hs (hr i e.symm)⟩
theorem Chg.mono {S T : Nat → Prop} {a b : World} (h : Chg S a b) (hst : ∀ i, S i → T i) : Chg T a b := ⟨h.os, h.tape, h.output, h.size, fun i hi ht => h.block i hi fun hs => ht (hst i hs)⟩
theorem Chg.new {S : Nat → Prop} {a b c : World} (h : a.grownBy b none) (k : Chg S b c) (hs : ∀ i, S i → a.heap.size ≤ i) : a.grownBy c none :=
  ⟨k.os.trans h.os, k.tape.trans h.tape, k.output.trans h.output, Nat.le_trans h.size k.size, fun i hi _ => (k.block i (Nat.lt_of_lt_of_le hi h.size) fun hS => by have := hs i hS; omega).trans (h.block i hi (by simp))⟩
theorem Chg.own {S : Nat → Prop} {w w' : World} {base : Nat} {e : TypeId} {sz n : Nat} {v : Value} {xs : List Value} (h : w.ownsRow base e sz v n xs) (k : Chg S w w') (hs : ∀ g, v.ownBlock = some g → ¬ S g) : w'.ownsRow base e sz v n xs := by
  refine ⟨h.1, ?_⟩
  rcases h.2 with h2 | ⟨g, cap, cur, hv, hb, hg, r⟩
  · exact .inl h2
  · refine .inr ⟨g, cap, cur, hv, hb, ?_, r⟩
    have hlt : g < w.heap.size := (Array.getElem?_eq_some_iff.1 hg).1
    rw [k.block g hlt (hs g (by rw [hv]; rfl))]; exact hg
theorem Chg.rd {S : Nat → Prop} {w w' : World} {sz n : Nat} {A : Option Addr} {xs : List Value} (h : Rd w sz A n xs) (k : Chg S w w') (hs : ∀ a, A = some a → ¬ S a.block) : Rd w' sz A n xs := by
  refine ⟨h.1, fun hn => ?_⟩
  obtain ⟨b, o, rfl, hb, hc⟩ := h.2 hn
  refine ⟨b, o, rfl, Nat.lt_of_lt_of_le hb k.size, fun j hj => ?_⟩
  exact (World.cell?_of_block (a := ⟨b, o + j, none⟩) (k.block b hb (hs _ rfl))).trans (hc j hj)
inductive CD where
  | num : Int → CD
  | row : TypeId → Nat → Nat → List Value → CD
def CD.rd (w : World) : CD → Value → Prop
  | .num z, v => v = .int .i64 z
  | .row _ s n cs, v => ∃ A c, v = .slice A n c ∧ n ≤ c ∧ c ≤ maxLen ∧ Rd w s A n cs
theorem CD.rd_grow {w w' : World} {cd : CD} {v : Value} (h : cd.rd w v) (hg : w.grownBy w' none) : cd.rd w' v := by
  cases cd with
  | num z => exact h
  | row e s n cs => obtain ⟨A, c, hv, h1, h2, h3⟩ := h; exact ⟨A, c, hv, h1, h2, h3.grow hg⟩
def RdC (w : World) (sz : Nat) (A : Option Addr) (n : Nat) (cds : List CD) : Prop :=
  ∃ vs : List Value, vs.length = cds.length ∧ (∀ (i : Nat) (cd : CD) (v : Value), cds[i]? = some cd → vs[i]? = some v → cd.rd w v) ∧ Rd w sz A n vs
theorem RdC.grow {w w' : World} {sz n : Nat} {A : Option Addr} {cds : List CD} (h : RdC w sz A n cds) (hg : w.grownBy w' none) : RdC w' sz A n cds := by
  obtain ⟨vs, h1, h2, h3⟩ := h
  exact ⟨vs, h1, fun i cd v hc hv => CD.rd_grow (h2 i cd v hc hv) hg, h3.grow hg⟩
theorem RdC.len {w : World} {sz n : Nat} {A : Option Addr} {cds : List CD} (h : RdC w sz A n cds) : cds.length = n * sz := by
  obtain ⟨vs, h1, h2, h3⟩ := h
  rw [← h1, h3.1]
theorem RdC.at_ {w : World} {sz n : Nat} {A : Option Addr} {cds : List CD} (h : RdC w sz A n cds) {i : Nat} (hi : i < n * sz) :
    ∃ (b o : Nat) (v : Value) (cd : CD), A = some ⟨b, o, none⟩ ∧ b < w.heap.size ∧ cds[i]? = some cd ∧ w.cell? ⟨b, o + i, none⟩ = some v ∧ cd.rd w v := by
  have hl := h.len
  obtain ⟨vs, h1, h2, h3⟩ := h
  have hn : 0 < n := by
    rcases Nat.eq_zero_or_pos n with h0 | h0
    · subst h0; simp at hi
    · exact h0
  obtain ⟨b, o, rfl, hb, hc⟩ := h3.2 hn
  have hiv : i < vs.length := by omega
  have hic : i < cds.length := by omega
  have e1 : vs[i]? = some vs[i] := List.getElem?_eq_getElem hiv
  have e2 : cds[i]? = some cds[i] := List.getElem?_eq_getElem hic
  exact ⟨b, o, vs[i], cds[i], rfl, hb, e2, by rw [hc i hi, e1], h2 i _ _ e2 e1⟩
def CD.own (w : World) (lo : Nat) : CD → Value → Prop
  | .num z, v => v = .int .i64 z
  | .row e s n cs, v => w.ownsRow lo e s v n cs
def apartV (u v : Value) : Prop := ∀ g, u.ownBlock = some g → v.ownBlock ≠ some g
theorem apartV.symm {u v : Value} (h : apartV u v) : apartV v u := fun g hv hu => h g hu hv
structure OwnC (w : World) (lo : Nat) (e : TypeId) (sz : Nat) (v : Value) (n : Nat) (cds : List CD) (vs : List Value) : Prop where
  len : vs.length = cds.length
  outer : w.ownsRow lo e sz v n vs
  inner : ∀ (i : Nat) (cd : CD) (u : Value), cds[i]? = some cd → vs[i]? = some u → cd.own w lo u
  apart : ∀ (i j : Nat) (u x : Value), i < j → vs[i]? = some u → vs[j]? = some x → apartV u x
  off : ∀ u ∈ vs, apartV v u
theorem CD.own_kept {S : Nat → Prop} {w w' : World} {lo : Nat} {cd : CD} {u : Value} (h : cd.own w lo u) (k : Chg S w w') (hs : ∀ g, u.ownBlock = some g → ¬ S g) : cd.own w' lo u := by
  cases cd with
  | num z => exact h
  | row e s n cs => exact Chg.own h k hs
theorem CD.own_lt {w : World} {lo : Nat} {cd : CD} {u : Value} (h : cd.own w lo u) {g : Nat} (hg : u.ownBlock = some g) : lo ≤ g ∧ g < w.heap.size := by
  cases cd with
  | num z => unfold CD.own at h; subst h; simp [Value.ownBlock] at hg
  | row e s n cs => exact World.ownsRow.lt h g hg
section
variable {w w' : World} {lo : Nat} {e : TypeId} {sz n : Nat} {v : Value} {cds : List CD} {vs : List Value}
theorem OwnC.blocks (h : OwnC w lo e sz v n cds vs) : ∀ u ∈ vs, ∀ g, u.ownBlock = some g → lo ≤ g ∧ g < w.heap.size := by
  intro u hu g hg
  obtain ⟨i, hi⟩ := List.mem_iff_getElem?.1 hu
  have hl := (List.getElem?_eq_some_iff.1 hi).1
  have hc : cds[i]? = some (cds[i]'(by rw [← h.len]; exact hl)) := List.getElem?_eq_getElem _
  exact CD.own_lt (h.inner i _ u hc hi) hg
theorem OwnC.kept {S : Nat → Prop} (h : OwnC w lo e sz v n cds vs) (k : Chg S w w') (hs : ∀ g, lo ≤ g → g < w.heap.size → ¬ S g) : OwnC w' lo e sz v n cds vs :=
  ⟨h.len, Chg.own h.outer k fun g hg => hs g (h.outer.lt g hg).1 (h.outer.lt g hg).2, fun i cd u hc hu => CD.own_kept (h.inner i cd u hc hu) k fun g hg => hs g (h.blocks u (List.mem_of_getElem? hu) g hg).1 (h.blocks u (List.mem_of_getElem? hu) g hg).2, h.apart, h.off⟩
theorem OwnC.grow (h : OwnC w lo e sz v n cds vs) (hg : w.grownBy w' none) : OwnC w' lo e sz v n cds vs := h.kept (Chg.of (S := fun _ => False) hg fun g hg => by simp at hg) fun _ _ _ h => h
theorem OwnC.set_ {G c k : Nat} {cd : CD} {u : Value} (h : OwnC w lo e sz (.slice (some ⟨G, 0, none⟩) n c) n cds vs) (hk : k < cds.length) (hu : cd.own w lo u) (hoff : apartV (.slice (some ⟨G, 0, none⟩) n c) u) (hap : ∀ x ∈ vs, apartV x u) :
    OwnC (w.setCell ⟨G, k, none⟩ u) lo e sz (.slice (some ⟨G, 0, none⟩) n c) n (cds.set k cd) (vs.set k u) ∧ w.grownBy (w.setCell ⟨G, k, none⟩ u) (some G) := by
  have hst := h.outer.stored k u
  have hkv : k < vs.length := by rw [h.len]; exact hk
  have hch : Chg (fun g => g = G) w (w.setCell ⟨G, k, none⟩ u) := Chg.of hst.2 fun g hg => by injection hg with hg; exact hg.symm
  refine ⟨⟨by simp [h.len], hst.1, fun i cd' u' hc hv => ?_, fun i j a b hij ha hb => ?_, fun a ha => ?_⟩, hst.2⟩
  · rw [List.getElem?_set] at hc hv
    by_cases ek : k = i
    · subst ek
      rw [if_pos rfl, if_pos hk] at hc
      rw [if_pos rfl, if_pos hkv] at hv
      injection hc with hc; injection hv with hv
      subst hc; subst hv
      exact CD.own_kept hu hch fun g hg e => hoff g (by rw [e]; rfl) hg
    · rw [if_neg ek] at hc hv
      exact CD.own_kept (h.inner i cd' u' hc hv) hch fun g hg e => h.off u' (List.mem_of_getElem? hv) g (by rw [e]; rfl) hg
  · rw [List.getElem?_set] at ha hb
    by_cases e1 : k = i
    · subst e1
      rw [if_pos rfl, if_pos hkv] at ha
      rw [if_neg (by omega)] at hb
      injection ha with ha; subst ha
      exact (hap b (List.mem_of_getElem? hb)).symm
    · rw [if_neg e1] at ha
      by_cases e2 : k = j
      · subst e2
        rw [if_pos rfl, if_pos hkv] at hb
        injection hb with hb; subst hb
        exact hap a (List.mem_of_getElem? ha)
      · rw [if_neg e2] at hb
        exact h.apart i j a b hij ha hb
  · rcases List.mem_or_eq_of_mem_set ha with h1 | h1
    · exact h.off a h1
    · rw [h1]; exact hoff
end
def ir (zs : List Int) : CD := .row 3 1 zs.length (zs.map (Value.int .i64))
section
variable {P : Program}
theorem run_append_of_nil (w : World) (base : Nat) (t ty e : TypeId) (i : TypeInfo) (size : Nat) (ht : P.underlying t = some (.slice e)) (hi : P.info? e = some i)
    (v : Value) (n : Nat) (xs : List Value) (hown : w.ownsRow base e size v n xs) (c : Nat) : (Builtin.append_ #[t, t] ty #[v, .slice none 0 c]).run P w = .ok v w := by
  rcases hown.2 with ⟨rfl, rfl⟩ | ⟨g, cap, cur, rfl, _, _, hnc, _⟩
  · simp [Builtin.append_, run_underlying ht, sizeOf, typeInfo, hi, Builtin.lenOf, Builtin.firstCells]
  · simp [Builtin.append_, run_underlying ht, sizeOf, typeInfo, hi, Builtin.lenOf, Builtin.firstCells, hnc, storeCells]
theorem wp_appendS {ops : Array Oper} {rest : List Oper} {o : Oper} {a : Act} {Q : Exit → Act → World → Prop} (wr : World) {t e : TypeId} {z : Value} {size bytes : Nat} (E : El P t e z size bytes) (hgd : o.guard = none) (s x : Operand)
    (ho : o.op = .call { callee := .builtin .append, args := #[s, x], argTypes := #[t, t] })
    (base : Nat) (v : Value) (n : Nat) (xs : List Value) (hown : wr.ownsRow base e size v n xs) (hs : a.eval s = v) (A : Option Addr) (m c : Nat) (ys : List Value) (hx : a.eval x = .slice A m c) (hr : Rd wr size A m ys) (h1 : ∀ u ∈ ys, u.oneCell' = true)
    (hn : n + m ≤ maxLen) (hb : (n + m) * bytes ≤ 140737488355328) (hbase : base ≤ wr.heap.size)
    (h : ∀ v' w', w'.ownsRow base e size v' (n + m) (xs ++ ys) → wr.grownBy w' v.ownBlock → wpList P ops Q rest (a.put o.dst v') w') :
    wpList P ops Q (o :: rest) a wr := by
  obtain ⟨i, hi, hz0, hz1, hz2⟩ := info_parts E.hi
  have key : ∀ ad : Addr, A = some ad → (∀ j u, ys[j]? = some u → wr.cell? (ad.add j) = some u) → wpList P ops Q (o :: rest) a wr := fun ad hA hc =>
    wpList_append_own wr hgd s x t ho base e i z size bytes E.ht hi hz0 hz1 hz2 E.hz E.hs v n xs hs hown ad m c ys (by rw [hx, hA]) hr.1 hc h1 hn hb hbase fun v' w' k1 k2 _ => h v' w' k1 k2
  rcases Nat.eq_zero_or_pos m with h0 | h0
  · subst h0
    have hys : ys = [] := List.eq_nil_of_length_eq_zero (by simpa using hr.1)
    subst hys
    cases A with
    | some ad => exact key ad rfl fun j u hu => by simp at hu
    | none =>
      refine wpList_plain hgd fun _ hK => ?_
      have hrun := run_append_of_nil (P := P) wr base t o.type e i size E.ht hi v n xs hown c
      unfold Oper.wp execOp
      simp only [ho, resolve, invoke, builtin, Sem.run_bind, Sem.run_pure, Result.andThen_ok, List.map_toArray, List.map_cons, List.map_nil, hs, hx, hrun]
      exact hK _ _ (h v wr (by simpa using hown) (gbR _ _))
  · obtain ⟨b, off, hA, hb', hc⟩ := hr.2 h0
    refine key ⟨b, off, none⟩ hA fun j u hu => ?_
    have hadd : (⟨b, off, none⟩ : Addr).add j = ⟨b, off + j, none⟩ := by unfold Addr.add; split <;> simp_all
    have hj : j < m * size := by rw [← hr.1]; exact (List.getElem?_eq_some_iff.1 hu).1
    rw [hadd, hc j hj, hu]
end
end Go.Proofs.Ythdfkiaoahpjpaa
