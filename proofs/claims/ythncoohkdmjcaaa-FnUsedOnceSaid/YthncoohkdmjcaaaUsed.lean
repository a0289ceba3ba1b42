/-
  FnUsedOnce's walk.
-/
import Derived.Test.YthncoohkdmjcaaaPoolDraw
import Derived.Test.YthncoohkdmjcaaaReg2
namespace Go.Proofs.Ythncoohkdmjcaaa
open Go.RowKit
set_option linter.unusedVariables false
theorem DrawPool_c (w : World) (A : Option Addr) (n c : Nat) (bs : List Int) (h : BytesIn w A n bs) :
    Calls Try.prog 40 #[.slice A n c] w fun e w' => ∃ s x b : Int, e = .returned (.agg #[.int .i64 s, .int .i64 x, .int .i64 b]) ∧ poolOk s x b = true ∧ w.grownBy w' none := by
  have H := Lib.hid h
  clear h
  go_enter Try.func40, Try.ntmps40
  go_wp2_with fail
  refine (l01New_c _ A n c bs (H.out.grow (gbA (gbR _ _) _))).mono ?_
  rintro e w1 ⟨rfl, hc1, hg1, hz1⟩
  have HC := Lib.hid (show Cur w1 (w.heap.size + 1) A n c bs by simpa using hc1)
  have R1 := Lib.hid ((Blk.new w 55 #[.int .i64 0, .int .i64 0, .int .i64 0]).grow hg1)
  have HG := Lib.hid (gbT (gbA (gbR w none) (.cells #[.int .i64 0, .int .i64 0, .int .i64 0] 55)) hg1)
  clear hc1 hg1 hz1
  go_wp2_with fail
  refine (l26Pool_c _ _ A n c bs HC.out).mono ?_
  rintro e w2 ⟨s, x, b, rfl, hp, hg2⟩
  have HP := Lib.hid hp
  have R2 := Lib.hid (Blk.grown R1.out hg2 (by simp))
  have G2 := Lib.hid (gbN HG.out hg2 (fun g e => by injection e with e; omega))
  have s0 := R2.out.cell 0
  have s1 := R2.out.cell 1
  have s2 := R2.out.cell 2
  have t0 := R2.out.frozen 0
  have t1 := R2.out.frozen 1
  have t2 := R2.out.frozen 2
  simp at s0 s1 s2
  clear hp hg2
  go_wp2_with fail
  refine ret_c Try.results40 (by rfl) st_pool (cs := #[.int .i64 s, .int .i64 x, .int .i64 b]) ?B (by rfl) (by rfl) ⟨_, _, _, rfl, HP.out, ?G⟩
  case B => exact ((R2.out.set_ 0 _).set_ 1 _).set_ 2 _
  case G => exact gbS (gbS (gbS G2.out (p := ⟨w.heap.size, 0, none⟩) (by simp) _) (p := ⟨w.heap.size, 1, none⟩) (by simp) _) (p := ⟨w.heap.size, 2, none⟩) (by simp) _
theorem reserve_any (s x b n : Int) (h : poolOk s x b = true) : ∃ (b2 : Int) (ok : Bool), poolOk s x b2 = true ∧ ∀ w : World,
    Calls Try.prog 41 #[.agg #[.int .i64 s, .int .i64 x, .int .i64 b], .int .i64 n] w fun e w' => e = .returned (.tuple #[.agg #[.int .i64 s, .int .i64 x, .int .i64 b2], .bool ok]) ∧ w.grownBy w' none := by
  cases hr : reserveOk s x b n with
  | true =>
    simp only [reserveOk, Bool.and_eq_true, decide_eq_true_eq] at hr
    obtain ⟨⟨⟨h0, h1⟩, h2⟩, h3⟩ := hr
    have := poolOk_is h0
    exact ⟨b + n, true, by simp [poolOk]; omega, fun w => implPoolReserve_yes s x b n w h0 h1 h2 h3⟩
  | false => exact ⟨b, false, h, fun w => implPoolReserve_no s x b n w hr⟩
theorem take_any (s x b n : Int) (h : poolOk s x b = true) : ∃ (x2 t u : Int) (ok : Bool), poolOk s x2 b = true ∧ x ≤ x2 ∧ (ok = true → t = x ∧ 1 ≤ u ∧ u ≤ 1000 ∧ x2 = x + u) ∧ ∀ w : World,
    Calls Try.prog 43 #[.agg #[.int .i64 s, .int .i64 x, .int .i64 b], .int .i64 n] w fun e w' => e = .returned (.tuple #[.agg #[.int .i64 s, .int .i64 x2, .int .i64 b], .agg #[.int .i64 t, .int .i64 u], .bool ok]) ∧ w.grownBy w' none := by
  cases hr : takeOk s x b n with
  | true =>
    simp only [takeOk, Bool.and_eq_true, decide_eq_true_eq] at hr
    obtain ⟨⟨⟨h0, h1⟩, h2⟩, h3⟩ := hr
    have := poolOk_is h0
    exact ⟨x + n, x, n, true, by simp [poolOk]; omega, by omega, fun _ => ⟨rfl, h1, h2, rfl⟩, fun w => implPoolTake_yes s x b n w h0 h1 h2 h3⟩
  | false => exact ⟨x, 0, 0, false, h, by omega, (fun e => by cases e), fun w => implPoolTake_no s x b n w hr⟩
/-- The tickets lie one behind the other, below x. -/
def tkInv (ts : List Tk) (x : Int) : Prop := 0 ≤ x ∧ x ≤ 1000 ∧ (∀ t ∈ ts, tkIn t = true ∧ t.1 + t.2 ≤ x) ∧ tkApart ts ts.length
theorem tkInv.mono {ts : List Tk} {x y : Int} (h : tkInv ts x) (hxy : x ≤ y) (hy : y ≤ 1000) : tkInv ts y := ⟨by have := h.1; omega, hy, fun t ht => ⟨(h.2.2.1 t ht).1, by have := (h.2.2.1 t ht).2; omega⟩, h.2.2.2⟩
theorem tkInv.snoc {ts : List Tk} {x n : Int} (h : tkInv ts x) (hn : 0 ≤ n) (hx : x + n ≤ 1000) : tkInv (ts ++ [(x, n)]) (x + n) := by
  obtain ⟨h1, h2, h3, h4⟩ := h
  refine ⟨by omega, hx, fun t ht => ?_, fun i j hj hi => ?_⟩
  · rcases List.mem_append.1 ht with ht | ht
    · have := h3 t ht; exact ⟨this.1, by omega⟩
    · simp at ht; subst ht; simp [tkIn]; omega
  · simp at hi
    have gl : ∀ k, k < ts.length → (ts ++ [(x, n)]).getD k (0, 0) = ts.getD k (0, 0) := fun k hk => by
      rw [List.getD_eq_getElem?_getD, List.getD_eq_getElem?_getD, List.getElem?_append_left hk]
    by_cases e : i = ts.length
    · subst e
      rw [gl j hj]
      have hm : ts.getD j (0, 0) ∈ ts := by rw [List.getD_eq_getElem?_getD, List.getElem?_eq_getElem hj]; exact List.getElem_mem hj
      have h5 := (h3 _ hm).2
      have h6 : (ts ++ [(x, n)]).getD ts.length (0, 0) = (x, n) := by rw [List.getD_eq_getElem?_getD, List.getElem?_append_right (Nat.le_refl _)]; simp
      rw [h6]
      generalize ts.getD j (0, 0) = t at *
      simp [tkHit]
      intros; omega
    · rw [gl i (by omega), gl j (by omega)]
      exact h4 i j hj (by omega)
theorem tkInv.nil {x : Int} (h : 0 ≤ x) (h1 : x ≤ 1000) : tkInv [] x := ⟨h, h1, by simp, fun i j h1 h2 => by simp at h2⟩
theorem tkInv.ok {ts : List Tk} {x : Int} (h : tkInv ts x) (hl : ts.length ≤ 1000) : tkB ts = true := by
  refine tkB_yes rfl hl (fun j hj => ?_) h.2.2.2
  rw [List.getD_eq_getElem?_getD, List.getElem?_eq_getElem hj]
  exact (h.2.2.1 _ (List.getElem_mem hj)).1
theorem stable_blk (g : Nat) (t : TypeId) (cs : Array Value) : stableF ⟨[], fun _ w => Blk w g t cs⟩ := fun _ _ _ h hg => Blk.grow h hg
def blkF (g : Nat) (t : TypeId) (cs : Array Value) : Fact := ⟨[], fun _ w => Blk w g t cs⟩
theorem blkF_at (g : Nat) (t : TypeId) (cs : Array Value) (f : Tmp → Value) (w : World) : (blkF g t cs).at_ f w = Blk w g t cs := rfl
theorem blkF_st (g : Nat) (t : TypeId) (cs : Array Value) : stableF (blkF g t cs) := fun _ _ _ h hg => Blk.grow h hg
/-- What a round of the law keeps. -/
structure UInv (w wr : World) (gP : Nat) (Q : Addr) (qs : List Int) (v : Value) (k : Nat) (s x b : Int) (ts : List Tk) : Prop where
  pool : poolOk s x b = true
  blk : Blk wr gP 55 #[.int .i64 s, .int .i64 x, .int .i64 b]
  q : Ints wr (some Q) 12 qs
  own : wr.ownsRow (Q.block + 1) 59 2 v ts.length (ts.flatMap c2)
  inv : tkInv ts x
  few : ts.length ≤ k + 1
  g : w.grownBy wr none
theorem wp_append1g {P : Program} {ops : Array Oper} {rest : List Oper} {o : Oper} {a : Act} {Q : Exit → Act → World → Prop} (wr : World) (g : Nat) (hgs : wr.heap.size = g) {t e : TypeId} {z : Value} {size bytes : Nat} (E : El P t e z size bytes) (hgd : o.guard = none) (s x : Operand)
    (ho : o.op = .call { callee := .builtin .append, args := #[s, x], argTypes := #[t, t] }) (cs : Array Value) (hcs : cs.size = size) (h1 : ∀ u ∈ cs.toList, u.oneCell' = true)
    (base : Nat) (v : Value) (n : Nat) (xs : List Value) (hown : wr.ownsRow base e size v n xs) (hs : a.eval s = v) (hx : a.eval x = .slice (some ⟨g, 0, none⟩) 1 1)
    (hn : n + 1 ≤ maxLen) (hb : (n + 1) * bytes ≤ 140737488355328) (hbase : base ≤ wr.heap.size)
    (h : ∀ v' w', w'.ownsRow base e size v' (n + 1) (xs ++ cs.toList) → wr.grownBy w' v.ownBlock → wpList P ops Q rest (a.put o.dst v') w') :
    wpList P ops Q (o :: rest) a (wr.alloc (.cells cs e)) := by
  subst hgs
  exact wp_append1 wr E hgd s x ho cs hcs h1 base v n xs hown hs hx hn hb hbase h
theorem UInv.grow {w wr wr' : World} {gP : Nat} {Q : Addr} {qs : List Int} {v : Value} {k : Nat} {s x b : Int} {ts : List Tk} (h : UInv w wr gP Q qs v k s x b ts) (hg : wr.grownBy wr' none) : UInv w wr' gP Q qs v k s x b ts :=
  ⟨h.pool, h.blk.grow hg, h.q.grow hg, own_grow h.own hg, h.inv, h.few, gbT h.g hg⟩
theorem UInv.next {w wr w' : World} {gP : Nat} {Q : Addr} {qs : List Int} {v : Value} {k : Nat} {s x b s' x' b' : Int} {ts : List Tk} (h : UInv w wr gP Q qs v k s x b ts) (hg : wr.grownBy w' (some gP))
    (hB : Blk w' gP 55 #[.int .i64 s', .int .i64 x', .int .i64 b']) (hp : poolOk s' x' b' = true) (hx : x ≤ x') (hQ : gP < Q.block) (hw : w.heap.size ≤ gP) : UInv w w' gP Q qs v (k + 1) s' x' b' ts :=
  ⟨hp, hB, h.q.grown hg (by rintro a ha; injection ha with ha; subst ha; simp; omega), own_grown h.own hg (by
    cases hb : Value.ownBlock v with
    | none => exact .inl rfl
    | some g => refine .inr fun e => ?_
                have := (h.own.lt g hb).1
                injection e with e
                omega), h.inv.mono hx (by have := poolOk_is hp; omega), by have := h.few; omega, gbN h.g hg (fun g e => by injection e with e; omega)⟩
theorem UInv.add {w wr w' : World} {gP : Nat} {Q : Addr} {qs : List Int} {v v' : Value} {k : Nat} {s x b u : Int} {ts : List Tk} (h : UInv w wr gP Q qs v (k + 1) s (x + u) b ts) (hi : tkInv ts x) (hk : ts.length ≤ k + 1) (hu : 1 ≤ u) (hg : wr.grownBy w' v.ownBlock)
    (ho : w'.ownsRow (Q.block + 1) 59 2 v' (ts.length + 1) (ts.flatMap c2 ++ [.int .i64 x, .int .i64 u])) (hQ : gP < Q.block) (hw : w.heap.size ≤ gP) : UInv w w' gP Q qs v' (k + 1) s (x + u) b (ts ++ [(x, u)]) := by
  have hv : ∀ g, v.ownBlock = some g → Q.block + 1 ≤ g := fun g hb => (h.own.lt g hb).1
  refine ⟨h.pool, h.blk.grown hg (fun e => ?_), h.q.grown hg (by rintro a ha e; injection ha with ha; subst ha; have := hv _ e.symm; omega), by simpa [c2] using ho, hi.snoc (by omega) (by have := poolOk_is h.pool; omega), by simp; omega, gbN h.g hg (fun g e => by have := hv g e; omega)⟩
  have := hv gP e.symm
  omega
theorem own_rd {w : World} {lo : Nat} {e : TypeId} {s n : Nat} {cs : List Value} {u : Value} (h : w.ownsRow lo e s u n cs) : ∃ A c, u = .slice A n c ∧ n ≤ c ∧ c ≤ maxLen ∧ Rd w s A n cs := by
  rcases h.2 with ⟨h1, h2⟩ | ⟨g, cap, cur, hv, hb, hg, hnc, hm, r⟩
  · have hn : n = 0 := h2
    subst hn
    exact ⟨none, 0, h1, Nat.le_refl _, by simp, by rw [← show Value.slice none 0 0 = u from h1.symm] at h; exact Rd.ofOwn h⟩
  · refine ⟨some ⟨g, 0, none⟩, cap, hv, hnc, hm, ?_⟩
    rw [hv] at h
    exact Rd.ofOwn h
theorem Blk.rd {w : World} {g : Nat} {t : TypeId} {cs : Array Value} {sz n : Nat} (h : Blk w g t cs) (hn : cs.size = n * sz) : Rd w sz (some ⟨g, 0, none⟩) n cs.toList :=
  ⟨by simpa using hn, fun _ => ⟨g, 0, rfl, h.lt, fun j _ => by rw [Nat.zero_add, h.cell j]; simp⟩⟩
theorem gdT {w w' : World} {r : Option Nat} (h : w.drew.grownBy w' r) : w.grownBy w' r := gbT (gbD (gbR w r)) h
theorem elTk : El Try.prog 57 59 (.agg #[.int .i64 0, .int .i64 0]) 2 16 := ⟨Try.underlying57, by kernel_rfl, rfl, by decide⟩
set_option maxRecDepth 100000 in
set_option maxHeartbeats 4000000 in
theorem FnUsedOnce.walk (w : World) (A : Option Addr) (n c : Nat) (zs : List Int) (hz : IntsK .u8 w A n zs) (hm : n ≤ maxLen) :
    Calls Try.prog 13 #[.slice A n c] w fun e w' => e = .returned (.bool true) ∧ w.grownBy w' none := by
  unfold maxLen at hm
  by_cases hbig : 1048576 < n
  · have hd : decide (1048576 < n) = true := by simp; omega
    go_enter Try.func13, Try.ntmps13
    go_wp2_with fail
    refine (big_c _ A n c (by omega)).mono ?_
    rintro e w1 ⟨rfl, rfl⟩
    go_wp2_with fail
    go_ret
    exact ⟨rfl, gbR _ _⟩
  · have hd : decide (1048576 < n) = false := by simp; omega
    have H := Lib.hid (bytesIn hz (by omega))
    clear hz
    go_enter Try.func13, Try.ntmps13
    go_wp2_with fail
    refine (big_c _ A n c (by omega)).mono ?_
    rintro e w1 ⟨rfl, rfl⟩
    rw [hd]
    clear hd hbig hm
    go_wp2_with fail
    refine (DrawPool_c _ A n c zs H.out).mono ?_
    rintro e w1 ⟨s, x, b', rfl, hp, hg1⟩
    have HP := Lib.hid hp
    have hpi := poolOk_is hp
    have LW00 := Lib.hid hg1.size
    have G1 := Lib.hid (gbA hg1 (.cells #[.int .i64 s, .int .i64 x, .int .i64 b'] 55))
    clear hp hg1
    go_wp2_with fail
    have LW0 : Hid (w.heap.size ≤ w1.heap.size) := LW00.out
    refine (DrawPlaces_c _ A n c zs (H.out.grow G1.out)).mono ?_
    rintro e w2 ⟨v, qs, rfl, hown, hq, hg⟩
    obtain ⟨B, d, rfl, _, _⟩ := own_form hown
    have HI := Lib.hid (show Ints w2 B 12 qs from Rd.ofOwn hown)
    obtain ⟨b, o, rfl, hb, hc⟩ := HI.out.at_ (by omega)
    have HQ := Lib.hid hq
    have hbl : Hid (w1.heap.size < b) := by
      have := (hown.lt b rfl).1
      simp at this
      unfold Hid; omega
    have BP := Lib.hid ((Blk.new w1 55 #[.int .i64 s, .int .i64 x, .int .i64 b']).grow hg)
    have G2 := Lib.hid (gbT G1.out hg)
    clear hown hc hg hq
    obtain ⟨gP, hgP⟩ : ∃ gP, w1.heap.size = gP := ⟨_, rfl⟩
    rw [hgP] at BP hbl LW0 ⊢
    have LP := BP.out.lt
    have b1 := BP.out.cell 1
    simp at b1
    have b3 := kA b1 (.cells #[] 59)
    have LWN := LW0.out
    have hbn := hbl.out
    have HO := Lib.hid (World.ownsRow_made (e := 59) (size := 2) (base := b + 1) w2 #[] 0 (by omega) (by simp) rfl)
    have U0 : Hid (∀ (wr : World) (v : Value) (ts : List Tk), wr.ownsRow (b + 1) 59 2 v ts.length (ts.flatMap c2) → tkInv ts x → ts.length ≤ 1 → (w2.alloc (.cells #[] 59)).grownBy wr (some w2.heap.size) → UInv w wr gP ⟨b, o, none⟩ qs v 0 s x b' ts) := by
      intro wr v ts h1 h2 h3 h4
      refine ⟨HP.out, (BP.out.grow (gbA (gbR _ _) _)).grown h4 (by simp; omega), (HI.out.grow (gbA (gbR _ _) _)).grown h4 (by rintro a ha; injection ha with ha; subst ha; simp; omega), h1, h2, h3, gbN (gbA G2.out _) h4 (fun g e => by injection e with e; have := G2.out.size; omega)⟩
    by_cases hx0 : 0 < x
    go_wp2_with (at_builtin; refine wp_append1g _ (w2.heap.size + 1) (by simp) elTk rfl (.tmp 20) (.tmp 24) rfl _ rfl (by simp [Value.oneCell']) (b + 1) _ 0 _ HO.out rfl rfl (by unfold maxLen; omega) (by omega) (by simp; omega) ?_; intro v' w3 hown3 hgrow)
    have U1 := Lib.hid (U0.out w3 v' [(0, x)] (by simpa [c2] using hown3) (by have := (tkInv.nil (x := 0) (by omega) (by omega)).snoc (n := x) (by omega) (by omega); simpa using this) (by simp) hgrow)
    clear hown3 hgrow HO U0
    rotate_left 1
    have U1 := Lib.hid (U0.out (w2.alloc (.cells #[] 59)) (.slice (some ⟨w2.heap.size, 0, none⟩) 0 0) [] (by simpa using HO.out) (tkInv.nil (by omega) (by omega)) (by simp) (gbR _ _))
    clear HO U0
    go_wp2_with fail
    all_goals
      clear b1 b3 hx0
      go_loopw [5, 6] (fun l i wr => ∃ (k : Nat) (s x bb : Int) (ts : List Tk), k ≤ 12 ∧ i = .int .i64 k ∧ Hid (UInv w wr gP ⟨b, o, none⟩ qs l k s x bb ts)) (fun _ i _ => 12 - (intOf i).toNat)
      case atStart => exact ⟨0, _, _, _, _, by omega, rfl, U1.out⟩
      case round =>
        clear U1
        obtain ⟨k, s, x, bb, ts, hk, rfl, U⟩ := hrel
        by_cases hlt : k < 12
        · obtain ⟨b1, o1, e1, hb1, c1⟩ := U.out.q.cell hlt
          injection e1 with e1
          injection e1 with e1 e2
          subst e1; subst e2
          have hz := HQ.out.at_ k hlt
          generalize qs.getD k 0 = z at *
          obtain ⟨z0, z1⟩ := hz
          have i1 : (k : Int) < 12 := by omega
          by_cases h0 : z % 5 = 0
          · have d0 : (z % 5 == 0) = true := by simp [h0]
            clear h0
            go_wp2_with fail
            obtain ⟨b2, ok, hp2, hc2⟩ := reserve_any s x bb (1 + z % 7) U.out.pool
            have P1 := Lib.hid hc2
            have HP2 := Lib.hid hp2
            have E0 := U.out.blk.cell 0
            have E1 := U.out.blk.cell 1
            have E2 := U.out.blk.cell 2
            simp at E0 E1 E2
            have E3 := c1
            clear hc2 hp2 c1
            have LG : gP < wr.heap.size := U.out.blk.lt
            refine region_reg2 [onT 56 (isV (.agg #[.int .i64 s, .int .i64 x, .int .i64 bb])), onT 57 (isV (.slice (some ⟨b, o, none⟩) 12 d)), onT 58 (isV (.int .i64 k)), onT 59 (isV (.pointer (some ⟨b, o + k, none⟩))), onT 60 (isV (.int .i64 z)), onT 61 (isV (.int .i64 (z % 7))), onT 62 (isV (.int .i64 (1 + z % 7))), onT 63 (isV (.tuple #[.agg #[.int .i64 s, .int .i64 x, .int .i64 b2], .bool ok])), onT 55 (isV (.tuple #[.agg #[.int .i64 s, .int .i64 x, .int .i64 b2], .bool ok])), onT 64 (isV (.agg #[.int .i64 s, .int .i64 x, .int .i64 b2])), onT 65 (isV (.bool ok)), blkF gP 55 #[.int .i64 s, .int .i64 x, .int .i64 b2]] (some gP) 11 (by kernel_rfl) (by kernel_rfl) (by kernel_rfl) (by simp [stablesF, stableF_on, isV_st, blkF_st]) ?_ ?_
            · simp only [hopsG, and_true]
              refine ⟨?_, ?_, ?_, ?_, ?_, ?_, ?_, ?_, ?_, ?_, ?_, ?_⟩
              rotate_left 11
              · intro f w4 hG0 hpre hd
                have hG := hpre (by kernel_rfl)
                have hB := U.out.blk.grow (gdT hG)
                have k0 := gbk hG (kD E0)
                have k1 := gbk hG (kD E1)
                have k2 := gbk hG (kD E2)
                have m0 := hB.frozen 0
                have m1 := hB.frozen 1
                have m2 := hB.frozen 2
                simp [depsF, bindE, List.filter_cons, bd_data, bd_chain, bd_guard, bd_phase, bd_text, bd_gc, fAt, onT_at, isV] at hd
                have hd64 := hd.1
                clear hd E0 E1 E2 E3
                simp [puts, dsts, Act.put, hd64]
                go_wp2_with fail
                refine ⟨rfl, ⟨.bool false, (((hB.set_ 0 _).set_ 1 _).set_ 2 _)⟩, Or.inr ⟨gbO (gbO (gbO hG0 _) _) _, ?_⟩⟩
                simp [keeps, onT_at, isV]
              all_goals
                intro f w4 hG0 hpre hd
                simp [depsF, bindE, List.filter_cons, bd_data, bd_chain, bd_guard, bd_phase, bd_text, bd_gc, fAt, onT_at, isV] at hd
                first
                  | have hG := hpre (by decide +kernel)
                    have k0 := gbk hG (kD E0)
                    have k1 := gbk hG (kD E1)
                    have k2 := gbk hG (kD E2)
                    have k3 := gbk hG (kD E3)
                    clear E0 E1 E2 E3 hG hG0 hpre
                    first | simp [puts, dsts, Act.put, hd] | simp [puts, dsts, Act.put]
                    go_wp2_with (go_at_call 41; refine (P1.out _).mono ?_; rintro e w5 ⟨rfl, hw⟩)
                    exact ⟨_, rfl, by first | (simp [fAt, onT_at, upd_some, isV]; done) | (simp [fAt, onT_at, upd_some, isV]; assumption), by first | with_reducible exact gbR _ _ | exact hw⟩
                  | clear E0 E1 E2 E3 hpre hG0
                    first | simp [puts, dsts, Act.put, hd] | simp [puts, dsts, Act.put]
                    go_wp2_with fail
                    exact ⟨_, rfl, by first | (simp [fAt, onT_at, upd_some, isV]; done) | (simp [fAt, onT_at, upd_some, isV]; assumption), by with_reducible exact gbR _ _⟩
            · intro f w4 hG hd
              simp [knowsF, onT_at, isV, blkF_at] at hd
              obtain ⟨h56, h57, h58, h59, h60, h61, h62, h63, h55, h64, h65, hB⟩ := hd
              have U2 : Hid (UInv w w4 gP ⟨b, o, none⟩ qs _ (k + 1) s x b2 ts) := U.out.next (gdT hG) hB HP2.out (by omega) hbn LWN
              clear hB hG U
              simp only [puts, dsts, Act.put, h56, h57, h58, h59, h60, h61, h62, h63, h55, h64, h65, List.filterMap_cons, List.filterMap_nil, List.setIfInBounds_toArray, List.set_cons_zero, List.set_cons_succ]
              clear h56 h57 h58 h59 h60 h61 h62 h63 h55 h64 h65
              have E0 := U2.out.blk.cell 0
              have E1 := U2.out.blk.cell 1
              have E2 := U2.out.blk.cell 2
              simp at E0 E1 E2
              go_wp2_with fail
              refine (implPoolOk_c s (x) (b2) _).mono ?_
              rintro e w5 ⟨rfl, h5⟩
              rw [U2.out.pool]
              have U3 := Lib.hid (U2.out.grow h5)
              clear U2 h5 E0 E1 E2
              go_wp2_with fail
              go_roundw
              case rel => exact ⟨k + 1, s, x, b2, ts, by omega, by go_num, U3.out⟩
              case measure => simp [intOf]; omega
          · have d0 : (z % 5 == 0) = false := by simpa using h0
            have E0 := U.out.blk.cell 0
            have E1 := U.out.blk.cell 1
            have E2 := U.out.blk.cell 2
            simp at E0 E1 E2
            have LG : gP < wr.heap.size := U.out.blk.lt
            by_cases h1 : z % 5 = 1
            · have d1 : (z % 5 == 1) = true := by simp [h1]
              clear h0 h1
              go_wp2_with fail
              refine (implPoolCrash_yes s x bb _ U.out.pool).mono ?_
              rintro e w5 ⟨rfl, h5⟩
              have hB := U.out.blk.grow h5
              have m0 := hB.frozen 0
              have m1 := hB.frozen 1
              have m2 := hB.frozen 2
              have U2 := Lib.hid (U.out.next (gbO (gbO (gbO (gbW h5) (.int .i64 s)) (.int .i64 bb)) (.int .i64 bb)) ((((hB.set_ 0 _).set_ 1 _).set_ 2 _)) (by have := poolOk_is U.out.pool; simp [poolOk]; omega) (by have := poolOk_is U.out.pool; omega) hbn LWN)
              have k0 := gbk h5 E0
              have k1 := gbk h5 E1
              have k2 := gbk h5 E2
              clear h5 hB U E0 E1 E2
              have E0 := U2.out.blk.cell 0
              have E1 := U2.out.blk.cell 1
              have E2 := U2.out.blk.cell 2
              simp at E0 E1 E2
              go_wp2_with fail
              refine (implPoolOk_c s (bb) (bb) _).mono ?_
              rintro e w5 ⟨rfl, h5⟩
              rw [U2.out.pool]
              have U3 := Lib.hid (U2.out.grow h5)
              clear U2 h5 E0 E1 E2
              go_wp2_with fail
              go_roundw
              case rel => exact ⟨k + 1, s, bb, bb, ts, by omega, by go_num, U3.out⟩
              case measure => simp [intOf]; omega
            · have d1 : (z % 5 == 1) = false := by simpa using h1
              clear h0 h1
              go_wp2_with fail
              obtain ⟨x2, tf, tu, ok, hp2, hx2, hok, hc2⟩ := take_any s x bb (1 + z % 4) U.out.pool
              have P1 := Lib.hid hc2
              have HP2 := Lib.hid hp2
              have HOK := Lib.hid hok
              have E3 := c1
              clear hc2 hp2 c1 hok
              refine region_reg [onT 36 (isV (.agg #[.int .i64 s, .int .i64 x, .int .i64 bb])), onT 37 (isV (.slice (some ⟨b, o, none⟩) 12 d)), onT 38 (isV (.int .i64 k)), onT 39 (isV (.pointer (some ⟨b, o + k, none⟩))), onT 40 (isV (.int .i64 z)), onT 41 (isV (.int .i64 (z % 4))), onT 42 (isV (.int .i64 (1 + z % 4))), onT 43 (isV (.tuple #[.agg #[.int .i64 s, .int .i64 x2, .int .i64 bb], .agg #[.int .i64 tf, .int .i64 tu], .bool ok])), onT 35 (isV (.tuple #[.agg #[.int .i64 s, .int .i64 x2, .int .i64 bb], .agg #[.int .i64 tf, .int .i64 tu], .bool ok])), onT 44 (isV (.agg #[.int .i64 s, .int .i64 x2, .int .i64 bb])), onT 45 (isV (.agg #[.int .i64 tf, .int .i64 tu])), onT 46 (isV (.bool ok)), onT 7 (isRoom wr.heap.size 55 3), onT 8 (isRoom wr.heap.size 59 2), onT 7 (isBox wr.heap.size 55 #[.int .i64 s, .int .i64 x2, .int .i64 bb]), onT 8 (isBox wr.heap.size 59 #[.int .i64 tf, .int .i64 tu]), onT 9 (isV (.bool ok))] (by kernel_rfl) (by kernel_rfl) (by kernel_rfl) (by simp [stablesF, stableF_on, isV_st, isRoom_st, isBox_st]) ?_ ?_
              · simp only [hopsF, and_true]
                refine ⟨?_, ?_, ?_, ?_, ?_, ?_, ?_, ?_, ?_, ?_, ?_, ?_, ?_, ?_, ?_, ?_, ?_⟩
                rotate_left 14
                · intro f w4 hG hd
                  simp [depsF, bindE, List.filter_cons, bd_data, bd_chain, bd_guard, bd_phase, bd_text, bd_gc, fAt, onT_at, isV] at hd
                  obtain ⟨⟨g, cs, eg, hlo, hB, hsz⟩, hd⟩ := hd
                  obtain ⟨u0, a0⟩ := room_cell hB hsz 0 (by omega)
                  obtain ⟨u1, a1⟩ := room_cell hB hsz 1 (by omega)
                  obtain ⟨u2, a2⟩ := room_cell hB hsz 2 (by omega)
                  have b0 := hB.frozen 0
                  have b1 := hB.frozen 1
                  have b2 := hB.frozen 2
                  have hd56 := hd.1
                  clear hd E0 E1 E2 E3
                  simp [puts, dsts, Act.put, eg, hd56]
                  go_wp2_with fail
                  refine ⟨rfl, ⟨.bool false, ⟨g, eg, hlo, fill3 hB hsz _ _ _⟩⟩, Or.inr ⟨gbS (p := ⟨g, 2, none⟩) (gbS (p := ⟨g, 1, none⟩) (gbS (p := ⟨g, 0, none⟩) hG hlo _) hlo _) hlo _, ?_⟩⟩
                  simp [keeps, onT_at, isV]
                  refine ⟨fun h => room_set (room_set (room_set h _ _ _) _ _ _) _ _ _, fun h => room_set (room_set (room_set h _ _ _) _ _ _) _ _ _, fun h => ?_⟩
                  exact box_far ((hB.set_ 0 _).set_ 1 _) (by decide) (box_far (hB.set_ 0 _) (by decide) (box_far hB (by decide) h _ _) _ _) _ _
                · intro f w4 hG hd
                  simp [depsF, bindE, List.filter_cons, bd_data, bd_chain, bd_guard, bd_phase, bd_text, bd_gc, fAt, onT_at, isV] at hd
                  obtain ⟨⟨g, cs, eg, hlo, hB, hsz⟩, hd⟩ := hd
                  obtain ⟨u0, a0⟩ := room_cell hB hsz 0 (by omega)
                  obtain ⟨u1, a1⟩ := room_cell hB hsz 1 (by omega)
                  have b0 := hB.frozen 0
                  have b1 := hB.frozen 1
                  have hd57 := hd.1
                  clear hd E0 E1 E2 E3
                  simp [puts, dsts, Act.put, eg, hd57]
                  go_wp2_with fail
                  refine ⟨rfl, ⟨.bool false, ⟨g, eg, hlo, fill2 hB hsz _ _⟩⟩, Or.inr ⟨gbS (p := ⟨g, 1, none⟩) (gbS (p := ⟨g, 0, none⟩) hG hlo _) hlo _, ?_⟩⟩
                  simp [keeps, onT_at, isV]
                  refine ⟨fun h => room_set (room_set h _ _ _) _ _ _, fun h => room_set (room_set h _ _ _) _ _ _, fun h => ?_⟩
                  exact box_far (hB.set_ 0 _) (by decide) (box_far hB (by decide) h _ _) _ _
                all_goals
                  intro f w4 hG hd
                  have k0 := gbk hG (kD E0)
                  have k1 := gbk hG (kD E1)
                  have k2 := gbk hG (kD E2)
                  have k3 := gbk hG (kD E3)
                  have HG := Lib.hid hG
                  clear E0 E1 E2 E3 hG
                  simp [depsF, bindE, List.filter_cons, bd_data, bd_chain, bd_guard, bd_phase, bd_text, bd_gc, fAt, onT_at, isV] at hd
                  first | simp [puts, dsts, Act.put, hd] | simp [puts, dsts, Act.put]
                  go_wp2_with (go_at_call 43; refine (P1.out _).mono ?_; rintro e w5 ⟨rfl, hw⟩)
                  first
                    | exact ⟨_, rfl, room_new HG.out.size rfl, gbA (gbR _ _) _⟩
                    | exact ⟨_, rfl, by first | (simp [fAt, onT_at, upd_some, isV]; done) | (simp [fAt, onT_at, upd_some, isV]; assumption), by first | with_reducible exact gbR _ _ | exact hw⟩
              · intro f w4 hG hd
                have U4 := Lib.hid (U.out.grow (gdT hG))
                simp [knowsF, onT_at, isV] at hd
                obtain ⟨h36, h37, h38, h39, h40, h41, h42, h43, h35, h44, h45, h46, _, _, ⟨g1, e1, l1, B1⟩, ⟨g2, e2, l2, B2⟩, h9⟩ := hd
                clear hG U E0 E1 E2 E3
                simp only [puts, dsts, Act.put, h36, h37, h38, h39, h40, h41, h42, h43, h35, h44, h45, h46, e1, e2, h9, List.filterMap_cons, List.filterMap_nil, List.setIfInBounds_toArray, List.set_cons_zero, List.set_cons_succ]
                clear h36 h37 h38 h39 h40 h41 h42 h43 h35 h44 h45 h46 e1 e2 h9
                have n1 : gP ≠ g1 := by omega
                have n2 : gP ≠ g2 := by omega
                have n1' : g1 ≠ gP := by omega
                have n2' : g2 ≠ gP := by omega
                have m0 := U4.out.blk.frozen 0
                have m1 := U4.out.blk.frozen 1
                have m2 := U4.out.blk.frozen 2
                have k0 := U4.out.blk.cell 0
                have k1 := U4.out.blk.cell 1
                have k2 := U4.out.blk.cell 2
                have c0 := B1.cell 0
                have c1 := B1.cell 1
                have c2 := B1.cell 2
                have c3 := B2.cell 0
                have c4 := B2.cell 1
                simp at k0 k1 k2 c0 c1 c2 c3 c4
                have U2 := Lib.hid (U4.out.next (gbO (gbO (gbO (gbR w4 _) (.int .i64 s)) (.int .i64 x2)) (.int .i64 bb)) ((((U4.out.blk.set_ 0 _).set_ 1 _).set_ 2 _)) HP2.out hx2 hbn LWN)
                have HK := Lib.hid (show tkInv ts x ∧ ts.length ≤ k + 1 from ⟨U4.out.inv, U4.out.few⟩)
                clear B1 B2 U4
                cases ok with
                | false =>
                  have E0 := U2.out.blk.cell 0
                  have E1 := U2.out.blk.cell 1
                  have E2 := U2.out.blk.cell 2
                  simp at E0 E1 E2
                  go_wp2_with fail
                  refine (implPoolOk_c s (x2) (bb) _).mono ?_
                  rintro e w5 ⟨rfl, h5⟩
                  rw [U2.out.pool]
                  have U3 := Lib.hid (U2.out.grow h5)
                  clear U2 h5 E0 E1 E2
                  go_wp2_with fail
                  go_roundw
                  case rel => exact ⟨k + 1, s, x2, bb, ts, by omega, by go_num, U3.out⟩
                  case measure => simp [intOf]; omega
                | true =>
                  obtain ⟨ht1, hu1, hu2, ht2⟩ := HOK.out rfl
                  subst ht1
                  subst ht2
                  have hfew : ts.length ≤ 12 := by have := HK.out.2; omega
                  have hsz : Hid (b + 1 ≤ w4.heap.size) := by have := U2.out.q.2 (by omega); obtain ⟨b', o', e', hb', _⟩ := this; injection e' with e'; injection e' with e' _; subst e'; simp at hb'; unfold Hid; omega
                  go_wp2_with (at_builtin; refine wp_append1g _ w4.heap.size (by simp) elTk rfl (.tmp 49) (.tmp 51) rfl _ rfl (by simp [Value.oneCell']) (b + 1) _ ts.length _ U2.out.own rfl rfl (by unfold maxLen; omega) (by omega) (by simp; exact hsz.out) ?_; intro v' w6 hown6 hgrow6; have U5 := U2.out.add HK.out.1 HK.out.2 hu1 hgrow6 (by simpa using hown6) hbn LWN; clear U2 hown6 hgrow6 k0 k1 k2 c0 c1 c2 c3 c4 m0 m1 m2; have U2 := Lib.hid U5; clear U5; have E0 := U2.out.blk.cell 0; have E1 := U2.out.blk.cell 1; have E2 := U2.out.blk.cell 2; simp at E0 E1 E2)
                  refine (implPoolOk_c s (tf + tu) (bb) _).mono ?_
                  rintro e w5 ⟨rfl, h5⟩
                  rw [U2.out.pool]
                  have U3 := Lib.hid (U2.out.grow h5)
                  clear U2 h5 E0 E1 E2
                  go_wp2_with fail
                  go_roundw
                  case rel => exact ⟨k + 1, s, tf + tu, bb, (ts ++ [(tf, tu)]), by omega, by go_num, U3.out⟩
                  case measure => simp [intOf]; omega
        · have hk12 : k = 12 := by omega
          subst hk12
          obtain ⟨A', c', rfl, hc1, hc2, hR⟩ := own_rd U.out.own
          have HR := Lib.hid hR
          have HT := Lib.hid (U.out.inv.ok (by have := U.out.few; omega))
          have HG := Lib.hid U.out.g
          have hfew : ts.length ≤ 13 := U.out.few
          clear U hR
          unfold maxLen at hc2
          go_wp2_with fail
          refine (implTicketsDisjoint_c _ _ _ ts _ ⟨rfl, HR.out⟩ (by omega) hc1 (by omega)).mono ?_
          rintro e w5 ⟨rfl, h5⟩
          rw [HT.out]
          have HG5 := Lib.hid (gbT HG.out h5)
          clear h5 HG
          go_wp2_with fail
          refine (implTicketsDisjoint_c _ 2 2 [(1, 2), (2, 1)] _ ⟨rfl, Blk.rd (Blk.new w5 _ _) rfl⟩ (by omega) (by omega) (by omega)).mono ?_
          rintro e w6 ⟨rfl, h6⟩
          rw [show tkB [(1, 2), (2, 1)] = false by decide +kernel]
          have HG6 := Lib.hid (gbT (gbA HG5.out _) h6)
          clear h6 HG5
          go_wp2_with fail
          go_ret
          exact ⟨rfl, HG6.out⟩
end Go.Proofs.Ythncoohkdmjcaaa
