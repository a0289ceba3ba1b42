/-
  append on a row of one's own, once more: where the row lies behind it: where it lay, or in a new block.
-/
import Derived.Test.YthdfkiaoahpjpaaMgFnExactCheckCopies8
import Derived.StillTailTactics
namespace Go.Proofs.Ythdfkiaoahpjpaa
open Go.RowKit
set_option linter.unusedVariables false
set_option linter.unusedSimpArgs false
section
variable {P : Program}
theorem run_append_new (w : World) (base : Nat) (t ty e : TypeId) (i : TypeInfo) (z : Value) (size bytes : Nat) (ht : P.underlying t = some (.slice e)) (hi : P.info? e = some i) (hz : i.zero = some z)
    (hsize : i.size = size) (hby : i.bytes = bytes) (hzs : z.cells.size = size) (hsz : 0 < size)
    (v : Value) (n : Nat) (xs : List Value) (hown : w.ownsRow base e size v n xs)
    (a : Addr) (m c : Nat) (news : List Value) (hl : news.length = m * size) (hnews : ∀ j u, news[j]? = some u → w.cell? (a.add j) = some u) (h1 : ∀ u ∈ news, u.oneCell' = true)
    (h63 : n + m ≤ maxLen) (hbytes : (n + m) * bytes ≤ 140737488355328) (hbase : base ≤ w.heap.size) :
    ∃ v' w', (Builtin.append_ #[t, t] ty #[v, .slice (some a) m c]).run P w = .ok v' w' ∧ w'.ownsRow base e size v' (n + m) (xs ++ news) ∧ w.grownBy w' v.ownBlock ∧
      (∀ g, v'.ownBlock = some g → some g = v.ownBlock ∨ w.heap.size ≤ g) := by
  rcases hown.2 with ⟨rfl, rfl⟩ | ⟨g, cap, cur, rfl, hbg, hg, hnc, hcm, hcs, htake⟩
  · have hown' : w.ownsRow w.heap.size e size (.slice none 0 0) 0 xs := ⟨hown.1, .inl ⟨rfl, rfl⟩⟩
    obtain ⟨v', w', hr, ho, hg, _⟩ := run_append_own w w.heap.size t ty e i z size bytes ht hi hz hsize hby hzs hsz _ 0 xs hown' a m c news hl hnews h1 h63 hbytes (Nat.le_refl _)
    exact ⟨v', w', hr, own_base ho hbase, hg, fun g hg' => .inr (ho.lt g hg').1⟩
  · obtain ⟨v', w', hr, ho, hgr, _⟩ := run_append_own w base t ty e i z size bytes ht hi hz hsize hby hzs hsz _ n xs hown a m c news hl hnews h1 h63 hbytes hbase
    refine ⟨v', w', hr, ho, hgr, fun g' hg' => ?_⟩
    subst hsize
    subst hby
    by_cases hroom : n + m ≤ cap
    · have hfit : n * i.size + news.length ≤ cur.size := by rw [hl, hcs, ← Nat.add_mul]; exact Nat.mul_le_mul_right _ hroom
      have hr2 := run_append_room (P := P) w t ty e i ht hi g n cap cur hg a m c news hl hnews h1 hroom hfit
      rw [hr] at hr2
      injection hr2 with e1 _
      subst e1
      exact .inl (by simpa [Value.ownBlock] using hg'.symm)
    · have hsmall : n + m ≤ 9223372036854775807 := by simp only [maxLen] at h63; omega
      have holds : ∀ j u, xs[j]? = some u → w.cell? ((⟨g, 0, none⟩ : Addr).add j) = some u := hown.cells (g := g) rfl
      have hr2 := run_append_grow (P := P) w t ty e i z ht hi hz ⟨g, 0, none⟩ n cap xs hown.1 holds a m c news hl hnews (by omega) (by omega) (growslice_fits (by omega) hbytes)
      rw [hr] at hr2
      injection hr2 with e1 _
      subst e1
      exact .inr (by simp [Value.ownBlock] at hg'; omega)
variable {ops : Array Oper} {rest : List Oper} {o : Oper} {a : Act} {Q : Exit → Act → World → Prop}
theorem wp_appendA (wr : World) {t e : TypeId} {z : Value} {size bytes : Nat} (E : El P t e z size bytes) (hgd : o.guard = none) (s x : Operand)
    (ho : o.op = .call { callee := .builtin .append, args := #[s, x], argTypes := #[t, t] })
    (base : Nat) (v : Value) (n : Nat) (xs : List Value) (hown : wr.ownsRow base e size v n xs) (hs : a.eval s = v) (ad : Addr) (m c : Nat) (ys : List Value) (hx : a.eval x = .slice (some ad) m c) (hl : ys.length = m * size) (hc : ∀ j u, ys[j]? = some u → wr.cell? (ad.add j) = some u) (h1 : ∀ u ∈ ys, u.oneCell' = true)
    (hn : n + m ≤ maxLen) (hb : (n + m) * bytes ≤ 140737488355328) (hbase : base ≤ wr.heap.size)
    (h : ∀ v' w', w'.ownsRow base e size v' (n + m) (xs ++ ys) → wr.grownBy w' v.ownBlock → (∀ g, v'.ownBlock = some g → some g = v.ownBlock ∨ wr.heap.size ≤ g) → wpList P ops Q rest (a.put o.dst v') w') :
    wpList P ops Q (o :: rest) a wr := by
  obtain ⟨i, hi, hz0, hz1, hz2⟩ := info_parts E.hi
  obtain ⟨v', w', hr, h2, h3, h4⟩ := run_append_new (P := P) wr base t o.type e i z size bytes E.ht hi hz0 hz1 hz2 E.hz E.hs v n xs hown ad m c ys hl hc h1 hn hb hbase
  refine wpList_plain hgd fun _ hK => ?_
  unfold Oper.wp execOp
  simp only [ho, resolve, invoke, builtin, Sem.run_bind, Sem.run_pure, Result.andThen_ok, List.map_toArray, List.map_cons, List.map_nil, hs, hx, hr]
  exact hK _ _ (h v' w' h2 h3 h4)
end
end Go.Proofs.Ythdfkiaoahpjpaa
/-
  The laws' helpers on slices of structs of numbers (printed by wip/gen_tab.py).
-/
namespace Go.Proofs.Ythdfkiaoahpjpaa
open Go.RowKit
set_option linter.unusedVariables false
set_option linter.unusedSimpArgs false
theorem c3_one (x : Int × Int × Int) : ∀ u ∈ c3 x, u.oneCell' = true := by simp [c3, Value.oneCell']
def mk2 (k : Int) (n : Nat) : List (Int × Int) := (List.range n).map fun i : Nat => (k + 2 * i, k + 2 * i + 1)
theorem elGate : El Try.prog 26 41 (.agg #[.int .i64 0, .int .i64 0, .int .i64 0]) 3 24 := ⟨Try.underlying26, by kernel_rfl, rfl, by decide⟩
set_option maxHeartbeats 400000 in
theorem toGate_c (a b c : Int) (w : World) :
    Calls Try.prog 102 #[.agg #[.int .i64 a, .int .i64 b, .int .i64 c]] w fun e w' => e = .returned (.agg #[.int .i64 a, .int .i64 b, .int .i64 c]) ∧ w.grownBy w' none := by
  go_enter Try.func102, Try.ntmps102
  go_wp2_with fail
  exact bodyPost_ret (by simp [results, Try.results102, go_sem]) rfl ⟨rfl, by repeat (first | with_reducible exact gbR _ _ | with_reducible refine gbA ?_ _)⟩
theorem eqGate_c (a b c : Int) (w : World) :
    Calls Try.prog 109 #[.agg #[.int .i64 a, .int .i64 b, .int .i64 c], .agg #[.int .i64 a, .int .i64 b, .int .i64 c]] w fun e w' => e = .returned (.bool true) ∧ w.grownBy w' none := by
  go_enter Try.func109, Try.ntmps109
  go_wp2_with fail
  all_goals
    go_ret
    exact ⟨rfl, by repeat (first | with_reducible exact gbR _ _ | with_reducible refine gbA ?_ _)⟩
set_option maxHeartbeats 400000 in
theorem toGateS_c (A : Option Addr) (n c : Nat) (xs : List (Int × Int × Int)) (w : World) (hx : FL c3 3 w A n xs) (hn : n ≤ 1099511627776) :
    Calls Try.prog 74 #[.slice A n c] w fun e w' => ∃ g, e = .returned (.slice (some ⟨g, 0, none⟩) n n) ∧ w'.ownsRow w.heap.size 41 3 (.slice (some ⟨g, 0, none⟩) n n) n (xs.flatMap c3) ∧ w.grownBy w' none := by
  have lx := Lib.hid hx.len
  go_enter Try.func74, Try.ntmps74
  go_wp2_with (at_make; refine wp_makeN _ elGate rfl _ _ rfl n rfl rfl (by omega) (by unfold maxLen; omega) ?_; intro w1 hown1 hg1; rw [made_flat c3_len (by omega) (0, 0, 0) _ (by rfl)] at hown1)
  have O1 := Lib.hid hown1
  have G1 := Lib.hid hg1
  clear hown1 hg1
  go_loopw [4] (fun i wr => ∃ k : Nat, k ≤ n ∧ i = .int .i64 k ∧ Hid (wr.ownsRow w.heap.size 41 3 (.slice (some ⟨w.heap.size, 0, none⟩) n n) n ((xs.take k ++ List.replicate (xs.length - k) (0, 0, 0)).flatMap c3)) ∧ Hid (w.grownBy wr none)) (fun i _ => n - (intOf i).toNat)
  case atStart => exact ⟨0, Nat.zero_le _, rfl, by simpa [Hid, lx.out] using O1.out, G1.out⟩
  case round =>
    obtain ⟨k, hk, rfl, hown, hg⟩ := hrel
    by_cases hlt : k < n
    · obtain ⟨b, o, x, rfl, hb, hxk, hc⟩ := (FL.grow hx hg.out).cell c3_len hlt (by omega)
      obtain ⟨a, b, c⟩ := x
      have q0 := hc 0 (by omega)
      have q1 := hc 1 (by omega)
      have q2 := hc 2 (by omega)
      simp only [c3, Nat.add_zero, ← Nat.add_assoc, List.getElem?_cons_zero, List.getElem?_cons_succ] at q0 q1 q2
      have HX := Lib.hid hxk
      have i1 : (k : Int) < (n : Int) := by omega
      clear hxk hc
      go_wp2_with fail
      refine (toGate_c a b c _).mono ?_
      rintro e w2 ⟨rfl, h2⟩
      have hown2 := own_grow hown.out h2
      have hl2 : ((xs.take k ++ List.replicate (xs.length - k) (0, 0, 0)).flatMap c3).length = n * 3 := hown2.1
      have hcell := fun j (hj : j < n * 3) => hown2.cellAt j hj
      obtain ⟨u0, t0⟩ : ∃ u, w2.cell? ⟨w.heap.size, k * 3 + 0, none⟩ = some u := ⟨_, (hcell (k * 3 + 0) (by omega)).trans (List.getElem?_eq_getElem (by rw [hl2]; omega))⟩
      have f0 := hown2.frozenAt (k * 3 + 0)
      obtain ⟨u1, t1⟩ : ∃ u, w2.cell? ⟨w.heap.size, k * 3 + 1, none⟩ = some u := ⟨_, (hcell (k * 3 + 1) (by omega)).trans (List.getElem?_eq_getElem (by rw [hl2]; omega))⟩
      have f1 := hown2.frozenAt (k * 3 + 1)
      obtain ⟨u2, t2⟩ : ∃ u, w2.cell? ⟨w.heap.size, k * 3 + 2, none⟩ = some u := ⟨_, (hcell (k * 3 + 2) (by omega)).trans (List.getElem?_eq_getElem (by rw [hl2]; omega))⟩
      have f2 := hown2.frozenAt (k * 3 + 2)
      simp only [Nat.add_zero] at t0 f0
      have s0 := hown2.stored (k * 3 + 0) (.int .i64 a)
      have s1 := s0.1.stored (k * 3 + 1) (.int .i64 b)
      have s2 := s1.1.stored (k * 3 + 2) (.int .i64 c)
      have g3 : wr.grownBy _ (some w.heap.size) := gbT (gbW h2) (gbT (gbT s0.2 s1.2) s2.2)
      have hlk : k < xs.length := by have := lx.out; omega
      have hxk' : xs[k] = (a, b, c) := by have := HX.out; rw [List.getElem?_eq_getElem hlk] at this; injection this
      have sN := s2.1
      simp only [Nat.add_zero] at sN g3
      rw [flat_set3 c3_len _ k (by simp; omega) (a, b, c) (.int .i64 a) (.int .i64 b) (.int .i64 c) rfl, ← hxk', fillD_step (0, 0, 0) xs k hlk] at sN
      have HN := Lib.hid sN
      have G3 := Lib.hid (gbN hg.out g3 (fun g e => by injection e with e; omega))
      clear s0 s1 s2 sN g3 hown2 hcell hl2 hown
      go_wp2_with fail
      go_roundw
      case rel => exact ⟨k + 1, by omega, by go_num, HN.out, G3.out⟩
      case measure => simp [intOf]; omega
    · have hkn : k = n := by omega
      subst hkn
      go_wp2_with fail
      go_ret
      have hl := lx.out
      have ho := hown.out
      rw [hl, Nat.sub_self, List.replicate_zero, List.append_nil, List.take_of_length_le (by omega)] at ho
      exact ⟨_, rfl, ho, hg.out⟩
set_option maxRecDepth 100000 in
set_option maxHeartbeats 400000 in
theorem eqGateS_c (A B : Option Addr) (n c d : Nat) (xs : List (Int × Int × Int)) (w : World) (hx : FL c3 3 w A n xs) (hy : FL c3 3 w B n xs) (hn : n ≤ 4611686018427387903) :
    Calls Try.prog 79 #[.slice A n c, .slice B n d] w fun e w' => e = .returned (.bool true) ∧ w.grownBy w' none := by
  have hd : ((n : Int) != (n : Int)) = false := by simp
  go_enter Try.func79, Try.ntmps79
  go_wp2_with fail
  go_loopw [5] (fun i wr => ∃ k : Nat, k ≤ n ∧ i = .int .i64 k ∧ Hid (w.grownBy wr none)) (fun i _ => n - (intOf i).toNat)
  case atStart => exact ⟨0, Nat.zero_le _, rfl, gbR _ _⟩
  case round =>
    obtain ⟨k, hk, rfl, hg⟩ := hrel
    by_cases hlt : k < n
    · obtain ⟨b, o, x, rfl, hb, hxk, hc⟩ := (FL.grow hx hg.out).cell c3_len hlt (by omega)
      obtain ⟨b', o', x', rfl, hb', hxk', hc'⟩ := (FL.grow hy hg.out).cell c3_len hlt (by omega)
      obtain rfl : x = x' := by rw [hxk] at hxk'; injection hxk'
      obtain ⟨a, b, c⟩ := x
      have q0 := hc 0 (by omega)
      have r0 := hc' 0 (by omega)
      have q1 := hc 1 (by omega)
      have r1 := hc' 1 (by omega)
      have q2 := hc 2 (by omega)
      have r2 := hc' 2 (by omega)
      simp only [c3, Nat.add_zero, ← Nat.add_assoc, List.getElem?_cons_zero, List.getElem?_cons_succ] at q0 r0 q1 r1 q2 r2
      have i1 : (k : Int) < (n : Int) := by omega
      clear hxk hxk' hc hc'
      go_wp2_with fail
      go_still_tail 8, (by kernel_rfl)
      go_wp2_with fail
      refine (eqGate_c a b c _).mono ?_
      rintro e w2 ⟨rfl, h2⟩
      have G2 := Lib.hid (gbT (gbD hg.out) h2)
      clear h2
      go_wp2_with fail
      go_roundw
      case rel => exact ⟨k + 1, by omega, by go_num, G2.out⟩
      case measure => simp [intOf]; omega
    · have hkn : k = n := by omega
      subst hkn
      go_wp2_with fail
      go_ret
      exact ⟨rfl, hg.out⟩
end Go.Proofs.Ythdfkiaoahpjpaa
/-
  Contracts of the laws' small helpers on slices of bools: eqBoolS, heldBoolS, markBoolS.
-/
namespace Go.Proofs.Ythdfkiaoahpjpaa
open Go.RowKit
set_option linter.unusedVariables false
set_option linter.unusedSimpArgs false
def Bools (w : World) (A : Option Addr) (n : Nat) (zs : List Bool) : Prop := Rd w 1 A n (zs.map Value.bool)
theorem Bools.len {w : World} {A : Option Addr} {n : Nat} {zs : List Bool} (h : Bools w A n zs) : zs.length = n := by simpa using h.1
theorem Bools.at_ {w : World} {A : Option Addr} {n : Nat} {zs : List Bool} (h : Bools w A n zs) (hn : 0 < n) :
    ∃ b o, A = some ⟨b, o, none⟩ ∧ b < w.heap.size ∧ ∀ j, j < n → w.cell? ⟨b, o + j, none⟩ = some (.bool (zs.getD j false)) := by
  obtain ⟨b, o, e, hb, hc⟩ := h.2 hn
  refine ⟨b, o, e, hb, fun j hj => ?_⟩
  have hl := h.len
  rw [hc j (by omega)]
  simp [List.getElem?_map, List.getD_eq_getElem?_getD, List.getElem?_eq_getElem (show j < zs.length by omega)]
theorem el_bool : El Try.prog 57 4 (.bool false) 1 1 := ⟨Try.underlying57, by kernel_rfl, rfl, by decide⟩
set_option maxHeartbeats 400000 in
theorem eqBoolS_c (A B : Option Addr) (n m c d : Nat) (xs ys : List Bool) (w : World) (hx : Bools w A n xs) (hy : Bools w B m ys) (hn : n ≤ 4611686018427387903) (hm : m ≤ 4611686018427387903) :
    Calls Try.prog 43 #[.slice A n c, .slice B m d] w fun e w' => e = .returned (.bool (xs == ys)) ∧ ∃ q, w' = w.drewN q := by
  have lx := hx.len
  have ly := hy.len
  by_cases hnm : n = m
  · subst hnm
    have hd : ((n : Int) != (n : Int)) = false := by simp
    have LX := Lib.hid lx
    have LY := Lib.hid ly
    clear lx ly
    go_enter Try.func43, Try.ntmps43
    go_wp2_with fail
    go_loopw [5] (fun i w1 => ∃ k q : Nat, k ≤ n ∧ i = .int .i64 k ∧ w1 = w.drewN q ∧ Hid (xs.take k = ys.take k)) (fun i _ => n - (intOf i).toNat)
    case atStart => exact ⟨0, 0, Nat.zero_le _, rfl, rfl, by simp [Hid]⟩
    case round =>
      obtain ⟨k, q, hk, rfl, rfl, heq⟩ := hrel
      by_cases hlt : k < n
      · obtain ⟨b, o, rfl, hb, hc⟩ := hx.at_ (by omega)
        obtain ⟨b', o', rfl, hb', hc'⟩ := hy.at_ (by omega)
        have c1 := hc k hlt
        have c2 := hc' k hlt
        clear hc hc'
        have i1 : (k : Int) < (n : Int) := by omega
        go_wp2_with fail
        go_quiet (fail)
        go_wp2_with fail
        · have hne : (xs[k]?.getD false != ys[k]?.getD false) = true := by assumption
          go_ret
          have h1 := LX.out; have h2 := LY.out
          have := ne_of_at xs ys false k (by simpa using hne)
          exact ⟨by simp [this], _, dN ..⟩
        · have hne : (xs[k]?.getD false != ys[k]?.getD false) = false := by assumption
          go_roundw
          case rel =>
            have h1 := LX.out; have h2 := LY.out
            exact ⟨k + 1, _, by omega, by go_num, rfl, take_eq_succ xs ys false k (by omega) (by omega) heq.out (by simpa using hne)⟩
          case measure => simp [intOf]; omega
      · have hkn : k = n := by omega
        subst hkn
        go_wp2_with fail
        go_ret
        have h1 := LX.out; have h2 := LY.out
        exact ⟨by simp [eq_of_take xs ys k h1 h2 heq.out], _, rfl⟩
  · have hd : ((n : Int) != (m : Int)) = true := by simp; omega
    go_enter Try.func43, Try.ntmps43
    go_wp2_with fail
    go_ret
    have : ¬ xs = ys := by rintro rfl; omega
    exact ⟨by simp [this], 0, rfl⟩
end Go.Proofs.Ythdfkiaoahpjpaa
