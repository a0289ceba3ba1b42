/-
  append on a row of one's own, once more: where the row lies behind it: where it lay, or in a new block.
-/
import Derived.Test.YthaadgdeadbhkaaMgFnCosts5
import Derived.StillTailTactics
import Derived.Test.YthaadgdeadbhkaaMgFnCosts0
namespace Go.Proofs.Ythaadgdeadbhkaa
open Go.RowKit
set_option linter.unusedVariables false
set_option linter.unusedSimpArgs false
section
variable {P : Program}
theorem run_append_new (w : World) (base : Nat) (t ty e : TypeId) (i : TypeInfo) (z : Value) (size bytes : Nat) (ht : P.underlying t = some (.slice e)) (hi : P.info? e = some i) (hz : i.zero = some z)
    (hsize : i.size = size) (hby : i.bytes = bytes) (hzs : z.cells.size = size) (hsz : 0 < size)
    (v : Value) (n : Nat) (xs : List Value) (hown : w.ownsRow base e size v n xs)
    (a : Addr) (m c : Nat) (news : List Value) (hl : news.length = m * size) (hnews : ∀ j u, news[j]? = some u → w.cell? (a.add j) = some u) (h1 : ∀ u ∈ news, u.oneCell' = true)
    (h63 : n + m ≤ maxLen) (hbytes : (n + m) * bytes ≤ 140737488355328) (hbase : base ≤ w.heap.size) :
    ∃ v' w', (Builtin.append_ #[t, t] ty #[v, .slice (some a) m c]).run P w = .ok v' w' ∧ w'.ownsRow base e size v' (n + m) (xs ++ news) ∧ w.grownBy w' v.ownBlock ∧
      (∀ g, v'.ownBlock = some g → some g = v.ownBlock ∨ w.heap.size ≤ g) := by
  rcases hown.2 with ⟨rfl, rfl⟩ | ⟨g, cap, cur, rfl, hbg, hg, hnc, hcm, hcs, htake⟩
  · have hown' : w.ownsRow w.heap.size e size (.slice none 0 0) 0 xs := ⟨hown.1, .inl ⟨rfl, rfl⟩⟩
    obtain ⟨v', w', hr, ho, hg, _⟩ := run_append_own w w.heap.size t ty e i z size bytes ht hi hz hsize hby hzs hsz _ 0 xs hown' a m c news hl hnews h1 h63 hbytes (Nat.le_refl _)
    exact ⟨v', w', hr, own_base ho hbase, hg, fun g hg' => .inr (ho.lt g hg').1⟩
  · obtain ⟨v', w', hr, ho, hgr, _⟩ := run_append_own w base t ty e i z size bytes ht hi hz hsize hby hzs hsz _ n xs hown a m c news hl hnews h1 h63 hbytes hbase
    refine ⟨v', w', hr, ho, hgr, fun g' hg' => ?_⟩
    subst hsize
    subst hby
    by_cases hroom : n + m ≤ cap
    · have hfit : n * i.size + news.length ≤ cur.size := by rw [hl, hcs, ← Nat.add_mul]; exact Nat.mul_le_mul_right _ hroom
      have hr2 := run_append_room (P := P) w t ty e i ht hi g n cap cur hg a m c news hl hnews h1 hroom hfit
      rw [hr] at hr2
      injection hr2 with e1 _
      subst e1
      exact .inl (by simpa [Value.ownBlock] using hg'.symm)
    · have hsmall : n + m ≤ 9223372036854775807 := by simp only [maxLen] at h63; omega
      have holds : ∀ j u, xs[j]? = some u → w.cell? ((⟨g, 0, none⟩ : Addr).add j) = some u := hown.cells (g := g) rfl
      have hr2 := run_append_grow (P := P) w t ty e i z ht hi hz ⟨g, 0, none⟩ n cap xs hown.1 holds a m c news hl hnews (by omega) (by omega) (growslice_fits (by omega) hbytes)
      rw [hr] at hr2
      injection hr2 with e1 _
      subst e1
      exact .inr (by simp [Value.ownBlock] at hg'; omega)
variable {ops : Array Oper} {rest : List Oper} {o : Oper} {a : Act} {Q : Exit → Act → World → Prop}
theorem wp_appendA (wr : World) {t e : TypeId} {z : Value} {size bytes : Nat} (E : El P t e z size bytes) (hgd : o.guard = none) (s x : Operand)
    (ho : o.op = .call { callee := .builtin .append, args := #[s, x], argTypes := #[t, t] })
    (base : Nat) (v : Value) (n : Nat) (xs : List Value) (hown : wr.ownsRow base e size v n xs) (hs : a.eval s = v) (ad : Addr) (m c : Nat) (ys : List Value) (hx : a.eval x = .slice (some ad) m c) (hl : ys.length = m * size) (hc : ∀ j u, ys[j]? = some u → wr.cell? (ad.add j) = some u) (h1 : ∀ u ∈ ys, u.oneCell' = true)
    (hn : n + m ≤ maxLen) (hb : (n + m) * bytes ≤ 140737488355328) (hbase : base ≤ wr.heap.size)
    (h : ∀ v' w', w'.ownsRow base e size v' (n + m) (xs ++ ys) → wr.grownBy w' v.ownBlock → (∀ g, v'.ownBlock = some g → some g = v.ownBlock ∨ wr.heap.size ≤ g) → wpList P ops Q rest (a.put o.dst v') w') :
    wpList P ops Q (o :: rest) a wr := by
  obtain ⟨i, hi, hz0, hz1, hz2⟩ := info_parts E.hi
  obtain ⟨v', w', hr, h2, h3, h4⟩ := run_append_new (P := P) wr base t o.type e i z size bytes E.ht hi hz0 hz1 hz2 E.hz E.hs v n xs hown ad m c ys hl hc h1 hn hb hbase
  refine wpList_plain hgd fun _ hK => ?_
  unfold Oper.wp execOp
  simp only [ho, resolve, invoke, builtin, Sem.run_bind, Sem.run_pure, Result.andThen_ok, List.map_toArray, List.map_cons, List.map_nil, hs, hx, hr]
  exact hK _ _ (h v' w' h2 h3 h4)
theorem wp_appendB (wr : World) (g : Nat) (hgs : wr.heap.size = g) {t e : TypeId} {z : Value} {size bytes : Nat} (E : El P t e z size bytes) (hgd : o.guard = none) (s x : Operand)
    (ho : o.op = .call { callee := .builtin .append, args := #[s, x], argTypes := #[t, t] }) (cs : Array Value) (hcs : cs.size = size) (h1 : ∀ u ∈ cs.toList, u.oneCell' = true)
    (base : Nat) (v : Value) (n : Nat) (xs : List Value) (hown : wr.ownsRow base e size v n xs) (hs : a.eval s = v) (hx : a.eval x = .slice (some ⟨g, 0, none⟩) 1 1)
    (hn : n + 1 ≤ maxLen) (hb : (n + 1) * bytes ≤ 140737488355328) (hbase : base ≤ wr.heap.size)
    (h : ∀ v' w', w'.ownsRow base e size v' (n + 1) (xs ++ cs.toList) → wr.grownBy w' v.ownBlock → (∀ g, v'.ownBlock = some g → some g = v.ownBlock ∨ wr.heap.size < g) → wpList P ops Q rest (a.put o.dst v') w') :
    wpList P ops Q (o :: rest) a (wr.alloc (.cells cs e)) := by
  subst hgs
  refine wp_appendA (wr.alloc (.cells cs e)) E hgd s x ho base v n xs (hown.alloc _) hs ⟨wr.heap.size, 0, none⟩ 1 1 cs.toList hx (by simpa using hcs) ?_ h1 hn hb (by simp; omega) fun v' w' k1 k2 k3 => ?_
  · intro j u hu
    have hadd : (⟨wr.heap.size, 0, none⟩ : Addr).add j = ⟨wr.heap.size, j, none⟩ := by unfold Addr.add; split <;> simp_all
    rw [hadd, cell_of_row _ _ j cs e (0, 0) (heap_alloc_new wr _)]
    simpa using hu
  · exact h v' w' k1 (gbT (World.grownBy_alloc wr _ _) k2) fun g hg => by
      rcases k3 g hg with h4 | h4
      · exact .inl h4
      · exact .inr (by simp at h4; omega)
end
end Go.Proofs.Ythaadgdeadbhkaa
/-
  The laws' helpers on slices of structs of numbers (printed by wip/gen_tab.py).
-/
namespace Go.Proofs.Ythaadgdeadbhkaa
open Go.RowKit
set_option linter.unusedVariables false
set_option linter.unusedSimpArgs false
theorem c3_one (x : Int × Int × Int) : ∀ u ∈ c3 x, u.oneCell' = true := by simp [c3, Value.oneCell']
theorem elStep : El Try.prog 27 95 (.agg #[.int .i64 0, .int .i64 0, .int .i64 0]) 3 24 := ⟨Try.underlying27, by kernel_rfl, rfl, by decide⟩
end Go.Proofs.Ythaadgdeadbhkaa
/-
  Contracts of the laws' small helpers on slices of bools: eqBoolS, heldBoolS, markBoolS.
-/
namespace Go.Proofs.Ythaadgdeadbhkaa
open Go.RowKit
set_option linter.unusedVariables false
set_option linter.unusedSimpArgs false
def Bools (w : World) (A : Option Addr) (n : Nat) (zs : List Bool) : Prop := Rd w 1 A n (zs.map Value.bool)
theorem Bools.len {w : World} {A : Option Addr} {n : Nat} {zs : List Bool} (h : Bools w A n zs) : zs.length = n := by simpa using h.1
theorem Bools.at_ {w : World} {A : Option Addr} {n : Nat} {zs : List Bool} (h : Bools w A n zs) (hn : 0 < n) :
    ∃ b o, A = some ⟨b, o, none⟩ ∧ b < w.heap.size ∧ ∀ j, j < n → w.cell? ⟨b, o + j, none⟩ = some (.bool (zs.getD j false)) := by
  obtain ⟨b, o, e, hb, hc⟩ := h.2 hn
  refine ⟨b, o, e, hb, fun j hj => ?_⟩
  have hl := h.len
  rw [hc j (by omega)]
  simp [List.getElem?_map, List.getD_eq_getElem?_getD, List.getElem?_eq_getElem (show j < zs.length by omega)]
end Go.Proofs.Ythaadgdeadbhkaa
/-
  The laws' helpers, by what a value reads as: slices of plain elements (printed by wip/gen_k.py).
-/
namespace Go.Proofs.Ythaadgdeadbhkaa
open Go.RowKit
set_option linter.unusedVariables false
set_option linter.unusedSimpArgs false
theorem own_growK (c : CS) {w w' : World} {F : List Nat} {v : Value} (h : c.own w F v) (hg : w.grownBy w' none) : c.own w' F v := c.kept h fun g hg' => hg.block g (c.lt h g hg') (by simp)
theorem own_setK (c : CS) {w : World} {F : List Nat} {v : Value} (h : c.own w F v) (p : Addr) (hp : p.block ∉ F) (u : Value) : c.own (w.setCell p u) F v := c.kept h fun g hg' => Below.heap_setCell w p u g (fun e => hp (e ▸ hg'))
theorem own_chgK (c : CS) {w w' : World} {F : List Nat} {S : Nat → Prop} {v : Value} (h : c.own w F v) (k : Chg S w w') (hs : ∀ g ∈ F, ¬ S g) : c.own w' F v := c.kept h fun g hg' => k.block g (c.lt h g hg') (hs g hg')
theorem ownAll_growK {w w' : World} {cs : List CS} {vs : List Value} {Fs : List (List Nat)} (h : OwnAll w cs vs Fs) (hg : w.grownBy w' none) : OwnAll w' cs vs Fs := h.kept fun g hg' => hg.block g (h.lt g hg') (by simp)
abbrev csteps (xs : List (Int × Int × Int)) : CS := plst 95 3 c3 xs
end Go.Proofs.Ythaadgdeadbhkaa
/-
  Structs by value: what their cells read as, whose they are.
-/
namespace Go.Proofs.Ythaadgdeadbhkaa
open Go.RowKit
def AggR (w : World) (cs : List CS) (v : Value) : Prop := ∃ vs : List Value, v = .agg vs.toArray ∧ RdAll w cs vs
def AggO (w : World) (cs : List CS) (F : List Nat) (v : Value) : Prop := ∃ (vs : List Value) (Fs : List (List Nat)), v = .agg vs.toArray ∧ OwnAll w cs vs Fs ∧ F = Fs.flatten
theorem AggR.grow {w w' : World} {cs : List CS} {v : Value} (h : AggR w cs v) (hg : w.grownBy w' none) : AggR w' cs v := by
  obtain ⟨vs, h1, h2⟩ := h
  exact ⟨vs, h1, h2.grow hg⟩
theorem AggO.rd {w : World} {cs : List CS} {F : List Nat} {v : Value} (h : AggO w cs F v) : AggR w cs v := by
  obtain ⟨vs, Fs, h1, h2, _⟩ := h
  exact ⟨vs, h1, h2.rd⟩
theorem AggO.lt {w : World} {cs : List CS} {F : List Nat} {v : Value} (h : AggO w cs F v) : ∀ g ∈ F, g < w.heap.size := by
  obtain ⟨vs, Fs, h1, h2, rfl⟩ := h
  exact h2.lt
theorem AggO.kept {w w' : World} {cs : List CS} {F : List Nat} {v : Value} (h : AggO w cs F v) (hk : ∀ g ∈ F, w'.heap[g]? = w.heap[g]?) : AggO w' cs F v := by
  obtain ⟨vs, Fs, h1, h2, rfl⟩ := h
  exact ⟨vs, Fs, h1, h2.kept hk, rfl⟩
theorem AggO.grow {w w' : World} {cs : List CS} {F : List Nat} {v : Value} (h : AggO w cs F v) (hg : w.grownBy w' none) : AggO w' cs F v := h.kept fun g hg' => hg.block g (h.lt g hg') (by simp)
theorem AggO.chg {w w' : World} {cs : List CS} {F : List Nat} {S : Nat → Prop} {v : Value} (h : AggO w cs F v) (k : Chg S w w') (hs : ∀ g ∈ F, ¬ S g) : AggO w' cs F v := h.kept fun g hg' => k.block g (h.lt g hg') (hs g hg')
end Go.Proofs.Ythaadgdeadbhkaa
/-
  Rows of one's own whose cells hold rows: a cell stored anew, a cell's row changed by a callee, cells appended.
-/
namespace Go.Proofs.Ythaadgdeadbhkaa
open Go.RowKit
set_option linter.unusedVariables false
set_option linter.unusedSimpArgs false
theorem own_n {w : World} {b : Nat} {e : TypeId} {s n n' c : Nat} {a : Addr} {vs : List Value} (h : w.ownsRow b e s (.slice (some a) n c) n' vs) : n' = n := by
  rcases h.2 with ⟨h1, _⟩ | ⟨g, cap, cur, hv, _⟩
  · injection h1 with h1; cases h1
  · injection hv with _ h1; exact h1.symm
section
variable {e : TypeId} {s : Nat} {cs : List CS} {w w' : World} {F : List Nat} {v : Value}
theorem row_own_slice (hs : 0 < s) (h : (row e s cs).own w F v) (hi : 0 < cs.length) : ∃ g n c, v = .slice (some ⟨g, 0, none⟩) n c ∧ g ∈ F := by
  obtain ⟨n, vs, Fs, h1, h2, h3, h4, h5⟩ := h
  rcases h2.2 with ⟨_, h0⟩ | ⟨g, cap, cur, hv, _⟩
  · subst h0; simp at h1; rw [h1] at hi; simp at hi
  · exact ⟨g, n, cap, hv, by rw [h4, hv]; simp [Value.ownBlock]⟩
theorem row_cell {g n c : Nat} (h : (row e s cs).own w F (.slice (some ⟨g, 0, none⟩) n c)) {i : Nat} {d : CS} (hd : cs[i]? = some d) :
    ∃ u Fi, w.cell? ⟨g, i, none⟩ = some u ∧ w.frozen? ⟨g, i, none⟩ = false ∧ d.own w Fi u ∧ (∀ x ∈ Fi, x ∈ F) ∧ g ∉ Fi ∧ g ∈ F := by
  obtain ⟨n', vs, Fs, h1, h2, h3, h4, h5⟩ := h
  obtain rfl := own_n h2
  have hi := (List.getElem?_eq_some_iff.1 hd).1
  obtain ⟨d', u, Fi, e1, e2, e3, ho⟩ := h3.get hi
  rw [hd] at e1; injection e1 with e1; subst e1
  have hcell := h2.cellAt i (by rw [← h1]; exact hi)
  have hfr := h2.frozenAt i
  have hmem : ∀ x ∈ Fi, x ∈ Fs.flatten := fun x hx => mem_flat e3 hx
  have hg : g ∉ Fs.flatten := fun hx => by
    rw [h4, List.nodup_append] at h5
    exact h5.2.2 g (by simp [Value.ownBlock]) g hx rfl
  exact ⟨u, Fi, hcell.trans e2, hfr, ho, fun x hx => by rw [h4]; exact List.mem_append_right _ (hmem x hx), fun hx => hg (hmem g hx), by rw [h4]; simp [Value.ownBlock]⟩
theorem row_set {g n c : Nat} (h : (row e s cs).own w F (.slice (some ⟨g, 0, none⟩) n c)) {i : Nat} (hi : i < cs.length) {d : CS} {u : Value} {Fc : List Nat} (hu : d.own w Fc u) (hd : ∀ x ∈ Fc, x ∉ F) :
    ∃ F', (row e s (cs.set i d)).own (w.setCell ⟨g, i, none⟩ u) F' (.slice (some ⟨g, 0, none⟩) n c) ∧ (∀ x ∈ F', x ∈ F ∨ x ∈ Fc) := by
  obtain ⟨n', vs, Fs, h1, h2, h3, h4, h5⟩ := h
  obtain rfl := own_n h2
  have hst := h2.stored i u
  have hgF : g ∈ F := by rw [h4]; simp [Value.ownBlock]
  have hg : g ∉ Fs.flatten := fun hx => by
    rw [h4, List.nodup_append] at h5
    exact h5.2.2 g (by simp [Value.ownBlock]) g hx rfl
  have hgc : g ∉ Fc := fun hx => hd g hx hgF
  have hi' : i < Fs.length := by rw [h3.lf]; exact hi
  have hset := h3.set_ (i := i) hi (own_setK d hu ⟨g, i, none⟩ hgc u) (fun x hx _ => Below.heap_setCell w ⟨g, i, none⟩ u x (fun e => hg (by have e' : x = g := e; rw [e'] at hx; exact hx))) (fun x hx hx' => absurd (by rw [h4]; exact List.mem_append_right _ hx') (hd x hx))
  refine ⟨_, ⟨n', vs.set i u, Fs.set i Fc, by rw [List.length_set]; exact h1, hst.1, hset, rfl, ?_⟩, fun x hx => ?_⟩
  · rw [List.nodup_append]
    refine ⟨by simp [Value.ownBlock], hset.nd, fun a ha b hb e => ?_⟩
    simp [Value.ownBlock] at ha
    subst ha
    subst e
    rcases mem_flat_set hi' hb with h6 | h6
    · exact hg h6
    · exact hgc h6
  · rcases List.mem_append.1 hx with hx | hx
    · exact .inl (by rw [h4]; exact List.mem_append_left _ hx)
    · rcases mem_flat_set hi' hx with h6 | h6
      · exact .inl (by rw [h4]; exact List.mem_append_right _ h6)
      · exact .inr h6
end
end Go.Proofs.Ythaadgdeadbhkaa
/-
  A cell of a row of rows: its row has been appended to (in place or anew), and the new slice stored.
-/
namespace Go.Proofs.Ythaadgdeadbhkaa
open Go.RowKit
set_option linter.unusedVariables false
set_option linter.unusedSimpArgs false
section
variable {e : TypeId} {s : Nat} {cs : List CS} {w w' : World} {F : List Nat}
end
end Go.Proofs.Ythaadgdeadbhkaa
