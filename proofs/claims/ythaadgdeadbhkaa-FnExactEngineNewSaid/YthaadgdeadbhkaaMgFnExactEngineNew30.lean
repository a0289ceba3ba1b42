/-
  copyEngine of the program.
-/
import Derived.Test.YthaadgdeadbhkaaMgFnExactEngineNew29
namespace Go.Proofs.Ythaadgdeadbhkaa
open Go.RowKit
set_option linter.unusedVariables false
set_option linter.unusedSimpArgs false
def keyL (lo : Nat) (k : KM) (u : Value) (w : World) : Prop := ∃ A n c, u = .agg #[.int .i64 k.p, .slice A n c] ∧ ownL lo (ckeys k) [.int .i64 k.p, .slice A n c] w
def keyArL (lo : Nat) (k : KM) (m : AM) (u v : Value) (w : World) : Prop := ∃ A n c B q d C r e, u = .agg #[.int .i64 k.p, .slice A n c] ∧ v = .agg #[.int .i64 m.p, .slice B q d, .slice C r e] ∧ ownL lo (ckeys k ++ carith m) [.int .i64 k.p, .slice A n c, .int .i64 m.p, .slice B q d, .slice C r e] w
theorem keyL.of {lo : Nat} {k : KM} {u : Value} {w : World} (h : aggF lo (ckeys k) u w) : keyL lo k u w := by
  obtain ⟨F, h1, h2⟩ := h
  obtain ⟨A, n, c, rfl⟩ := ckeys_oform h1
  exact ⟨A, n, c, rfl, aggF.all ⟨F, h1, h2⟩⟩
theorem keyArL.of {lo : Nat} {k : KM} {m : AM} {u v : Value} {w w' : World} (h : keyL lo k u w) (hg : w.grownBy w' none) (k2 : aggF w.heap.size (carith m) v w') (hl : lo ≤ w.heap.size) : keyArL lo k m u v w' := by
  obtain ⟨A, n, c, rfl, h1⟩ := h
  obtain ⟨F, k3, k4⟩ := k2
  obtain ⟨B, q, d, C, r, e, rfl⟩ := carith_oform k3
  exact ⟨A, n, c, B, q, d, C, r, e, rfl, rfl, h1.app hg (aggF.all (vs := [_, _, _]) ⟨F, k3, k4⟩) hl⟩
theorem keyL.grow {lo : Nat} {k : KM} {u : Value} {w w' : World} (h : keyL lo k u w) (hg : w.grownBy w' none) : keyL lo k u w' := by
  obtain ⟨A, n, c, e, h1⟩ := h
  exact ⟨A, n, c, e, h1.grow hg⟩
theorem keyArL.grow {lo : Nat} {k : KM} {m : AM} {u v : Value} {w w' : World} (h : keyArL lo k m u v w) (hg : w.grownBy w' none) : keyArL lo k m u v w' := by
  obtain ⟨A, n, c, B, q, d, C, r, e, e1, e2, h1⟩ := h
  exact ⟨A, n, c, B, q, d, C, r, e, e1, e2, h1.grow hg⟩
def keyArO (lo : Nat) (m : EM) (u v x : Value) (w : World) : Prop := ∃ A n c B q d C r e E o i, u = .agg #[.int .i64 m.k.p, .slice A n c] ∧ v = .agg #[.int .i64 m.c.p, .slice B q d, .slice C r e] ∧ x = .slice E o i ∧ ownL lo (ckeys m.k ++ carith m.c ++ [cauths []] ++ [cints m.op]) [.int .i64 m.k.p, .slice A n c, .int .i64 m.c.p, .slice B q d, .slice C r e, .slice none 0 0, .slice E o i] w
theorem keyArO.grow {lo : Nat} {m : EM} {u v x : Value} {w w' : World} (h : keyArO lo m u v x w) (hg : w.grownBy w' none) : keyArO lo m u v x w' := by
  obtain ⟨A, n, c, B, q, d, C, r, e, E, o, i, e1, e2, e3, h1⟩ := h
  exact ⟨A, n, c, B, q, d, C, r, e, E, o, i, e1, e2, e3, h1.grow hg⟩
def EM.noV (m : EM) : EM := { m with vs := [] }
def eng0 (lo : Nat) (m : EM) (u : Value) (w : World) : Prop := ∃ A n c B q d C r e E o i, u = .agg #[.int .i64 m.k.p, .slice A n c, .int .i64 m.c.p, .slice B q d, .slice C r e, .slice none 0 0, .slice E o i, .int .i64 m.rd, .bool m.bad] ∧ aggF lo (cengine m.noV) (.agg #[.int .i64 m.k.p, .slice A n c, .int .i64 m.c.p, .slice B q d, .slice C r e, .slice none 0 0, .slice E o i, .int .i64 m.rd, .bool m.bad]) w
theorem eng0.grow {lo : Nat} {m : EM} {u : Value} {w w' : World} (h : eng0 lo m u w) (hg : w.grownBy w' none) : eng0 lo m u w' := by
  obtain ⟨A, n, c, B, q, d, C, r, e, E, o, i, e1, h1⟩ := h
  exact ⟨A, n, c, B, q, d, C, r, e, E, o, i, e1, h1.grow hg⟩
theorem keyArO.of {lo : Nat} {m : EM} {u v : Value} {w w' : World} {E : Option Addr} {i : Nat} (h : keyArL lo m.k m.c u v w) (hg : w.grownBy w' none) (o6 : w'.ownsRow w.heap.size 3 1 (.slice E m.op.length i) m.op.length (m.op.map (Value.int .i64))) (hl : lo ≤ w.heap.size) : keyArO lo m u v (.slice E m.op.length i) w' := by
  have hz : ownL w.heap.size [cauths []] [.slice none 0 0] w := ⟨[[]], OwnAll.cons (cauths_nil w) (OwnAll.nil _) (by simp), by simp⟩
  obtain ⟨A, n, c, B, q, d, C, r, e, e8, e11, h1⟩ := h
  exact ⟨A, n, c, B, q, d, C, r, e, _, _, _, e8, e11, rfl, ((h1.app (gbR _ _) hz hl).app hg (ownF.ints o6).one hl)⟩
theorem eng0.of {lo : Nat} {m : EM} {u v x : Value} {w : World} (h : keyArO lo m u v x w) (hl : lo ≤ w.heap.size) : ∃ A n c B q d C r e E o i, u = .agg #[.int .i64 m.k.p, .slice A n c] ∧ v = .agg #[.int .i64 m.c.p, .slice B q d, .slice C r e] ∧ x = .slice E o i ∧ eng0 lo m (.agg #[.int .i64 m.k.p, .slice A n c, .int .i64 m.c.p, .slice B q d, .slice C r e, .slice none 0 0, .slice E o i, .int .i64 m.rd, .bool m.bad]) w := by
  obtain ⟨A, n, c, B, q, d, C, r, e, E, o, i, e1, e2, e3, h1⟩ := h
  have hz : ownL w.heap.size [ci m.rd, cb m.bad] [.int .i64 m.rd, .bool m.bad] w := ((ownL.nil _ w).pl (x := .bool m.bad) rfl).pl (x := .int .i64 m.rd) rfl
  exact ⟨A, n, c, B, q, d, C, r, e, E, o, i, e1, e2, e3, A, n, c, B, q, d, C, r, e, E, o, i, rfl, (h1.app (gbR _ _) hz hl).agg⟩
end Go.Proofs.Ythaadgdeadbhkaa
/-
  The values that EngineNew fills in, place by place; a new list of Auths.
-/
namespace Go.Proofs.Ythaadgdeadbhkaa
open Go.RowKit
set_option linter.unusedVariables false
set_option linter.unusedSimpArgs false
def fillV (k : KM) (c : AM) (P s : Nat) (ins : List Int) (j : Nat) : List AuM := (List.range c.st.length).map fun i => if i < j then initV k c P s ins i else noA
theorem fillV_len (k : KM) (c : AM) (P s : Nat) (ins : List Int) (j : Nat) : (fillV k c P s ins j).length = c.st.length := by simp [fillV]
theorem fillV_zero (k : KM) (c : AM) (P s : Nat) (ins : List Int) : fillV k c P s ins 0 = List.replicate c.st.length noA := by
  unfold fillV
  apply List.ext_getElem
  · simp
  · intro i h1 h2
    simp
theorem fillV_all (k : KM) (c : AM) (P s : Nat) (ins : List Int) : fillV k c P s ins c.st.length = initL k c P s ins := by
  unfold fillV initL
  apply List.map_congr_left
  intro i hi
  rw [if_pos (List.mem_range.1 hi)]
theorem fillV_set (k : KM) (c : AM) (P s : Nat) (ins : List Int) {j : Nat} (hj : j < c.st.length) : (fillV k c P s ins j).set j (initV k c P s ins j) = fillV k c P s ins (j + 1) := by
  unfold fillV
  apply List.ext_getElem
  · simp
  · intro i h1 h2
    rw [List.getElem_set]
    simp only [List.getElem_map, List.getElem_range]
    by_cases e : j = i
    · subst e
      rw [if_pos rfl, if_pos (by omega)]
    · rw [if_neg e]
      by_cases h : i < j
      · rw [if_pos h, if_pos (by omega)]
      · rw [if_neg h, if_neg (by omega)]
theorem fillV_same (k : KM) (c : AM) (P s : Nat) (ins : List Int) {j : Nat} (h : initV k c P s ins j = noA) : fillV k c P s ins (j + 1) = fillV k c P s ins j := by
  unfold fillV
  apply List.map_congr_left
  intro i hi
  by_cases e : i = j
  · subst e
    rw [if_pos (by omega), if_neg (by omega), h]
  · by_cases h' : i < j
    · rw [if_pos (by omega), if_pos h']
    · rw [if_neg (by omega), if_neg h']
theorem toList_made_two (z : Value) (n : Nat) : (madeCells #[z, z] (n * 2)).toList = List.replicate (n * 2) z := by
  apply List.ext_getElem?
  intro j
  by_cases hj : j < n * 2
  · have h2 : j % 2 = 0 ∨ j % 2 = 1 := by omega
    rcases h2 with h2 | h2 <;> simp [madeCells, hj, h2]
  · simp [madeCells, hj]
theorem flat_noA (n : Nat) : (List.replicate n noA).flatMap cauth = List.replicate (n * 2) (cints []) := by
  induction n with
  | zero => rfl
  | succ n ih =>
    rw [List.replicate_succ, List.flatMap_cons, ih, show (n + 1) * 2 = n * 2 + 1 + 1 by omega, List.replicate_succ, List.replicate_succ]
    rfl
theorem cints_nil (w : World) : (cints []).own w [] (.slice none 0 0) := cints_own (World.ownsRow_nil w 0 _ 1)
theorem ownAll_nils (w : World) : ∀ n : Nat, OwnAll w (List.replicate n (cints [])) (List.replicate n (.slice none 0 0)) (List.replicate n [])
  | 0 => OwnAll.nil w
  | n + 1 => by
    rw [List.replicate_succ, List.replicate_succ, List.replicate_succ]
    exact OwnAll.cons (cints_nil w) (ownAll_nils w n) (by simp)
theorem flat_rep_nil {α : Type} (n : Nat) : (List.replicate n ([] : List α)).flatten = [] := by
  induction n with
  | zero => rfl
  | succ n ih => rw [List.replicate_succ, List.flatten_cons, ih]; rfl
theorem cauths_made {w : World} {g n : Nat} {lo : Nat} (h : w.ownsRow lo 44 2 (.slice (some ⟨g, 0, none⟩) n n) n (List.replicate (n * 2) (.slice none 0 0))) : (cauths (List.replicate n noA)).own w [g] (.slice (some ⟨g, 0, none⟩) n n) := by
  refine ⟨n, _, List.replicate (n * 2) [], ?_, own_base h (Nat.zero_le _), ?_, ?_, by simp⟩
  · rw [flat_noA, List.length_replicate]
  · rw [flat_noA]; exact ownAll_nils w _
  · rw [flat_rep_nil]; rfl
def valF (lo n : Nat) (v : Value) (w : World) : Prop := ∃ g, v = .slice (some ⟨g, 0, none⟩) n n ∧ lo ≤ g ∧ (cauths (List.replicate n noA)).own w [g] v
theorem valF_st {lo n : Nat} : stable (valF lo n) := fun v w w' ⟨g, h1, h2, h3⟩ hg => ⟨g, h1, h2, own_growK _ h3 hg⟩
def engN (k : KM) (c : AM) (n : Nat) : EM := ⟨k, c, List.replicate n noA, [], 0, false⟩
def engZ (lo : Nat) (m : EM) (u : Value) (w : World) : Prop := ∃ A n c B q d C r e D o i, u = .agg #[.int .i64 m.k.p, .slice A n c, .int .i64 m.c.p, .slice B q d, .slice C r e, .slice D o i, .slice none 0 0, .int .i64 m.rd, .bool m.bad] ∧ aggF lo (cengine m) (.agg #[.int .i64 m.k.p, .slice A n c, .int .i64 m.c.p, .slice B q d, .slice C r e, .slice D o i, .slice none 0 0, .int .i64 m.rd, .bool m.bad]) w
theorem engZ.grow {lo : Nat} {m : EM} {u : Value} {w w' : World} (h : engZ lo m u w) (hg : w.grownBy w' none) : engZ lo m u w' := by
  obtain ⟨A, n, c, B, q, d, C, r, e, E, o, i, e1, h1⟩ := h
  exact ⟨A, n, c, B, q, d, C, r, e, E, o, i, e1, h1.grow hg⟩
theorem ka_ty (k : KM) (m : AM) : ∀ c ∈ ckeys k ++ carith m, tyd [3, 95] c := by
  intro c hc
  simp only [List.mem_cons, List.mem_append, List.not_mem_nil, or_false] at hc
  rcases hc with (rfl | rfl) | rfl | rfl | rfl
  · exact tyd_pl
  · exact tyd_plst (by simp)
  · exact tyd_pl
  · exact tyd_plst (by simp)
  · exact tyd_plst (by simp)
theorem engZ.of {lo n : Nat} {k : KM} {c : AM} {u v x : Value} {w : World} (h : keyArL lo k c u v w) (hv : valF lo n x w) : ∃ A n1 c1 B q d C r e g, u = .agg #[.int .i64 k.p, .slice A n1 c1] ∧ v = .agg #[.int .i64 c.p, .slice B q d, .slice C r e] ∧ x = .slice (some ⟨g, 0, none⟩) n n ∧ engZ lo (engN k c n) (.agg #[.int .i64 k.p, .slice A n1 c1, .int .i64 c.p, .slice B q d, .slice C r e, .slice (some ⟨g, 0, none⟩) n n, .slice none 0 0, .int .i64 0, .bool false]) w := by
  obtain ⟨A, n1, c1, B, q, d, C, r, e, rfl, rfl, Fs, h1, h2⟩ := h
  obtain ⟨g, rfl, hg, hv⟩ := hv
  have hgT : ∃ cur z, w.heap[g]? = some (.cells cur 44 z) := by
    obtain ⟨n', vs, Gs, a1, a2, a3, a4, a5⟩ := hv
    rcases a2.2 with ⟨e, _⟩ | ⟨g', cap, cur, e, _, e1, _⟩
    · cases e
    · injection e with e
      injection e with e
      injection e with e
      subst e
      exact ⟨_, _, e1⟩
  have hdis : g ∉ Fs.flatten := by
    intro hx
    obtain ⟨cur, T, z, e1, e2⟩ := ownAll_ty h1 (ka_ty k c) g hx
    obtain ⟨cur', z', e3⟩ := hgT
    rw [e3] at e1
    injection e1 with e1
    injection e1 with _ e1 _
    rw [← e1] at e2
    revert e2
    decide
  have hz : OwnAll w [ci 0, cb false] [.int .i64 0, .bool false] [[], []] := OwnAll.cons (ci_own w 0) (OwnAll.cons (cb_own w false) (OwnAll.nil _) (by simp)) (by simp)
  have h5 : OwnAll w [cauths (List.replicate n noA), cints [], ci 0, cb false] [.slice (some ⟨g, 0, none⟩) n n, .slice none 0 0, .int .i64 0, .bool false] [[g], [], [], []] := OwnAll.cons hv (OwnAll.cons (cints_nil w) hz (by simp)) (by simp)
  have h6 := h1.append h5 (fun y hy hy' => by
    simp at hy'
    subst hy'
    exact hdis hy)
  refine ⟨A, n1, c1, B, q, d, C, r, e, g, rfl, rfl, rfl, A, n1, c1, B, q, d, C, r, e, _, _, _, rfl, _, ⟨_, _, rfl, h6, rfl⟩, fun y hy => ?_⟩
  rw [List.flatten_append] at hy
  rcases List.mem_append.1 hy with hy | hy
  · exact h2 y hy
  · simp at hy
    omega
end Go.Proofs.Ythaadgdeadbhkaa
/-
  The laws' helpers on slices of Auths, by what they read as.
-/
namespace Go.Proofs.Ythaadgdeadbhkaa
open Go.RowKit
set_option linter.unusedVariables false
set_option linter.unusedSimpArgs false
def auS (xs : List AuM) (k : Nat) : Nat := ((xs.take k).map AuM.sz).sum
theorem auS_zero (xs : List AuM) : auS xs 0 = 0 := by simp [auS]
theorem auS_succ (xs : List AuM) (k : Nat) (x : AuM) (h : xs[k]? = some x) : auS xs (k + 1) = auS xs k + x.sz := by
  obtain ⟨hk, rfl⟩ := List.getElem?_eq_some_iff.1 h
  unfold auS
  rw [List.take_succ_eq_append_getElem hk, List.map_append, List.sum_append]
  simp
theorem auS_mono (xs : List AuM) {j k : Nat} (h : j ≤ k) : auS xs j ≤ auS xs k := by
  induction k with
  | zero => have : j = 0 := by omega
            subst this; exact Nat.le_refl _
  | succ k ih =>
    by_cases e : j = k + 1
    · subst e; exact Nat.le_refl _
    · have h1 := ih (by omega)
      cases hk : xs[k]? with
      | some x => rw [auS_succ xs k x hk]; omega
      | none =>
        have hl : xs.length ≤ k := by simpa using hk
        have : auS xs (k + 1) = auS xs k := by unfold auS; rw [List.take_of_length_le (by omega), List.take_of_length_le (by omega)]
        omega
def szA (xs : List AuM) : Nat := xs.length + auS xs xs.length
theorem len_auS (xs : List AuM) (x : AuM) (h : x ∈ xs) : x.sz ≤ auS xs xs.length := by
  obtain ⟨j, hj, rfl⟩ := List.getElem_of_mem h
  have h1 := auS_succ xs j _ (List.getElem?_eq_getElem hj)
  have h2 := auS_mono xs (show j + 1 ≤ xs.length by omega)
  omega
theorem cas_rd {w : World} {xs : List AuM} {v : Value} (h : (cauths xs).rd w v) : ∃ A c, v = .slice A xs.length c ∧ xs.length ≤ c ∧ c ≤ maxLen := by
  obtain ⟨A, c, vs, h1, h2, h3, _⟩ := lst_rd (s := 2) (fun _ => rfl) (by omega) h
  exact ⟨A, c, h1, h2, h3⟩
theorem auth_set2 (xs : List AuM) (i : Nat) (x : AuM) (hi : i < xs.length) : ((xs.flatMap cauth).set (i * 2) (cints x.sh)).set (i * 2 + 1) (cints x.mc) = (xs.set i x).flatMap cauth := by
  have hlen : (xs.flatMap cauth).length = xs.length * 2 := flat_len (sz := 2) (fun _ => rfl) xs
  apply List.ext_getElem?
  intro j
  rw [List.getElem?_set, List.getElem?_set, List.length_set, hlen, flat_get' (sz := 2) (fun _ => rfl) (by omega) xs, flat_get' (sz := 2) (fun _ => rfl) (by omega) (xs.set i x)]
  rw [List.getElem?_set]
  have hm : j % 2 < 2 := Nat.mod_lt _ (by omega)
  by_cases e : i = j / 2
  · subst e
    rw [if_pos rfl, if_pos hi]
    rcases Nat.lt_or_ge (j % 2) 1 with h6 | h6
    · have h7 : j % 2 = 0 := by omega
      rw [if_neg (by omega), if_pos (by omega), if_pos (by omega), h7]
      rfl
    · have h7 : j % 2 = 1 := by omega
      rw [if_pos (by omega), if_pos (by omega), h7]
      rfl
  · rw [if_neg e, if_neg (by omega), if_neg (by omega)]
set_option maxRecDepth 100000 in
set_option maxHeartbeats 800000 in
theorem eqAuthS_z (xss : List AuM) (v u : Value) (w : World) (h : (cauths xss).rd w v) (k : (cauths xss).rd w u) (hs : szA xss ≤ 1048576) :
    Calls Try.prog 96 #[v, u] w fun e w' => e = .returned (.bool true) ∧ w.grownBy w' none := by
  obtain ⟨A, c, rfl, hc, hm⟩ := cas_rd h
  obtain ⟨B, d, rfl, hd, hm'⟩ := cas_rd k
  have HX := Lib.hid h
  have HY := Lib.hid k
  have HSM : Hid (∀ x ∈ xss, x.sz ≤ 1048576) := Lib.hid (fun x hx => by have := len_auS xss x hx; unfold szA at hs; omega)
  have hn : xss.length ≤ 1048576 := by unfold szA at hs; omega
  obtain ⟨n, hnn⟩ : ∃ n, xss.length = n := ⟨_, rfl⟩
  rw [hnn] at hc hd hn HX HY ⊢
  clear h k hs hnn
  have hd : ((n : Int) != (n : Int)) = false := by simp
  go_enter Try.func96, Try.ntmps96
  go_wp2_with fail
  go_loopw [5] (fun i wr => ∃ k : Nat, k ≤ n ∧ i = .int .i64 k ∧ Hid (w.grownBy wr none)) (fun i _ => n - (intOf i).toNat)
  case atStart => exact ⟨0, Nat.zero_le _, rfl, gbR _ _⟩
  case round =>
    obtain ⟨k, hk, rfl, hg⟩ := hrel
    by_cases hlt : k < n
    · obtain ⟨b, o, x, X0, x0, X1, x1, rfl, hb, hx, q0, q1, q2⟩ := cauths_at (CS.grow _ HX.out hg.out) hlt
      obtain ⟨b', o', x', Y0, y0, Y1, y1, rfl, hb', hx', r0, r1, r2⟩ := cauths_at (CS.grow _ HY.out hg.out) hlt
      obtain rfl : x = x' := by rw [hx] at hx'; injection hx'
      have HL := Lib.hid (HSM.out x (List.mem_of_getElem? hx))
      have i1 : (k : Int) < (n : Int) := by omega
      have Q2 := Lib.hid q2
      have R2 := Lib.hid r2
      have Q0 := Lib.hid q0
      have Q1 := Lib.hid q1
      have R0 := Lib.hid r0
      have R1 := Lib.hid r1
      clear q2 r2 hx hx' q0 q1 r0 r1
      go_wp2_with fail
      refine region_grow [isV (.slice (some ⟨b, o, none⟩) n c), isV (.int .i64 k), isV (.pointer (some ⟨b, o + k * 2, none⟩)), isV (.agg #[.slice X0 x.sh.length x0, .slice X1 x.mc.length x1]), isV (.slice (some ⟨b', o', none⟩) n d), isV (.int .i64 k), isV (.pointer (some ⟨b', o' + k * 2, none⟩)), isV (.agg #[.slice Y0 x.sh.length y0, .slice Y1 x.mc.length y1]), isV (.bool true), isV (.bool false)] (by kernel_rfl) (by kernel_rfl) (by kernel_rfl) (by simp [stables, isV_st]) ?_ ?_
      · simp only [hops, and_true]
        refine ⟨?_, ?_, ?_, ?_, ?_, ?_, ?_, ?_, ?_, ?_⟩
        all_goals
          intro f w1 hG hd
          have k0 := gbk (gbT (gbD (gbR _ _)) hG) (Q0.out)
          have k1 := gbk (gbT (gbD (gbR _ _)) hG) (Q1.out)
          have k2 := gbk (gbT (gbD (gbR _ _)) hG) (R0.out)
          have k3 := gbk (gbT (gbD (gbR _ _)) hG) (R1.out)
          simp [deps, tAt, isV] at hd
          first | simp [puts, dsts, Act.put, hd] | simp [puts, dsts, Act.put]
          clear hd
          go_wp2_with (first | (go_at_call 149; refine (eqAuth_k x _ _ _ (AggR.grow Q2.out (gbT (gbD (gbR _ none)) hG)) (AggR.grow R2.out (gbT (gbD (gbR _ none)) hG)) HL.out).mono ?_; rintro e w6 ⟨rfl, hw⟩))
        all_goals exact ⟨_, rfl, by first | with_reducible exact gbR _ _ | exact hw, by first | (simp [tAt, isV]; done) | (simp [tAt, isV]; assumption)⟩
      intro f w5 hG hd
      simp [knows, tAt, isV] at hd
      obtain ⟨h0_, h1_, h2_, h3_, h4_, h5_, h6_, h7_, h8_, h9_⟩ := hd
      simp only [puts, dsts, Act.put, h0_, h1_, h2_, h3_, h4_, h5_, h6_, h7_, h8_, h9_, List.filterMap_cons, List.filterMap_nil, List.setIfInBounds_toArray, List.set_cons_zero, List.set_cons_succ]
      clear h0_ h1_ h2_ h3_ h4_ h5_ h6_ h7_ h8_ h9_
      have g5 := gbT (gbD (gbR _ none)) hG
      clear hG
      have G2 := Lib.hid (gbT hg.out g5)
      clear g5
      go_wp2_with fail
      go_roundw
      case rel => exact ⟨k + 1, by omega, by go_num, G2.out⟩
      case measure => simp [intOf]; omega
    · have hkn : k = n := by omega
      subst hkn
      go_wp2_with fail
      go_ret
      exact ⟨rfl, hg.out⟩
end Go.Proofs.Ythaadgdeadbhkaa
