/-
  FnNoMuls: the walk.
-/
import Derived.Test.YtapljpcpmdlppaaNoMulsL
import Derived.Test.YtapljpcpmdlppaaEvalI
import Derived.Test.YtapljpcpmdlppaaPrime
import Derived.Test.YtapljpcpmdlppaaSubsets
namespace Go.Proofs.Ytapljpcpmdlppaa
open Go.RowKit
set_option linter.unusedVariables false
theorem own_ne_blk2 {w : World} {b s n n' c g g' : Nat} {e T : TypeId} {xs : List Value} {cs : Array Value} (h : w.ownsRow b e s (.slice (some ⟨g, 0, none⟩) n c) n' xs) (k : Blk w g' T cs) (hne : e ≠ T) : g ≠ g' := by
  intro e'; subst e'
  rcases h.2 with ⟨h1, _⟩ | ⟨g', cap, cur, hv, _, hg, _⟩
  · injection h1 with h1; cases h1
  · injection hv with e1; injection e1 with e1; injection e1 with e1; subst e1
    unfold Blk at k
    rw [hg] at k
    injection k with k; injection k with _ k; exact hne k
theorem rdLit {w : World} {g : Nat} (hg : w.heap.size = g) (cs : Array Value) (t : TypeId) (sz m : Nat) (h : cs.size = m * sz) : Rd (w.alloc (.cells cs t)) sz (some ⟨g, 0, none⟩) m cs.toList := by
  subst hg
  refine ⟨by simpa using h, fun _ => ⟨_, 0, rfl, by simp, fun j hj => ?_⟩⟩
  rw [Nat.zero_add, cell_of_row _ _ j cs t (0, 0) (heap_alloc_new w _)]
  simp
theorem ownLit {w : World} {base g : Nat} (hg : w.heap.size = g) (hb : base ≤ g) (cs : Array Value) (e : TypeId) (sz m : Nat) (h : cs.size = m * sz) (hm : m ≤ maxLen) : (w.alloc (.cells cs e)).ownsRow base e sz (.slice (some ⟨g, 0, none⟩) m m) m cs.toList := by
  subst hg
  refine ⟨by simpa using h, .inr ⟨_, m, cs, rfl, hb, heap_alloc_new w _, Nat.le_refl _, hm, h, ?_⟩⟩
  rw [← h, ← Array.length_toList]; exact List.take_length
theorem nst_wf {n : Nat} (h8 : n ≤ 8) : ∀ z ∈ nst n, w3 z := by
  intro z hz
  obtain ⟨k, hk, rfl⟩ := List.getElem_of_mem hz
  have hk' : k < 2 * n + 1 := by rw [nst_len] at hk; exact hk
  have e : (nst n)[k] = (nst n).getD k (0, 0, 0) := by rw [List.getD_eq_getElem?_getD, List.getElem?_eq_getElem hk]; rfl
  rw [e]
  rcases nst_split n k hk' with rfl | ⟨i, hi, rfl⟩ | ⟨i, hi, rfl⟩
  · rw [nst_zero]; simp only [w3, i64w]; omega
  · rw [nst_odd hi]; simp only [w3, i64w]; omega
  · rw [nst_even hi]; simp only [w3, i64w]; omega
theorem nM_wf {p : Int} (hp : 2 ≤ p) (hp1 : p ≤ 101) {n : Nat} (h8 : n ≤ 8) : (nM p n).wf := by
  refine ⟨by show -9223372036854775808 ≤ p ∧ p ≤ 9223372036854775807; omega, nst_wf h8, fun z hz => ?_⟩
  have : z = 2 * (n : Int) := by simpa [nM] using hz
  subst this
  simp only [i64w]; omega
/-- The inputs that are laid so far. -/
def inP (p : Int) (qs : List Int) (j : Nat) : List Int := (List.range 60).map fun t => if t ≤ j then inV p qs t else 0
theorem inP_set (p : Int) (qs : List Int) (j : Nat) (h : j + 1 < 60) : ((inP p qs j).map (Value.int .i64)).set (j + 1) (.int .i64 (inV p qs (j + 1))) = (inP p qs (j + 1)).map (Value.int .i64) := by
  apply List.ext_getElem?
  intro i
  rw [List.getElem?_set]
  simp only [inP, List.map_map, List.getElem?_map, List.length_map, List.length_range]
  by_cases e : j + 1 = i
  · subst e; simp [h, List.getElem?_range h]
  · rw [if_neg e]
    by_cases hi : i < 60
    · rw [List.getElem?_range hi]
      simp only [Option.map_some, Function.comp]
      by_cases h1 : i ≤ j
      · rw [if_pos h1, if_pos (by omega)]
      · rw [if_neg h1, if_neg (by omega)]
    · rw [List.getElem?_eq_none (by simp; omega)]; rfl
theorem inP_zero (p : Int) (qs : List Int) : (List.replicate 60 (Value.int .i64 0)).set 0 (.int .i64 (inV p qs 0)) = (inP p qs 0).map (Value.int .i64) := by
  apply List.ext_getElem?
  intro i
  rw [List.getElem?_set, List.getElem?_replicate]
  simp only [inP, List.map_map, List.getElem?_map, List.length_replicate]
  by_cases e : 0 = i
  · subst e; simp
  · rw [if_neg e]
    split
    · rename_i hi
      rw [List.getElem?_range hi]
      simp only [Option.map_some, Function.comp]
      rw [if_neg (by omega)]
    · rw [List.getElem?_eq_none (by simp; omega)]; rfl
theorem inP_all (p : Int) (qs : List Int) : inP p qs 8 = nins p qs := by
  unfold inP nins
  apply List.map_congr_left
  intro t _
  split
  · rfl
  · unfold inV; rw [if_neg (by omega), if_neg (by omega)]
def isRow (n : Nat) : Value → World → Prop := fun v _ => ∃ A c, v = .slice A n c
theorem isRow_st (n : Nat) : stable (isRow n) := fun _ _ _ h _ => h
theorem hidImp {A B : Prop} (h : Hid A → B) : A → B := fun a => h a
/-- The circuit under way, in block BC. -/
structure NInv (p : Int) (qs : List Int) (b o BC lo : Nat) (w2 : World) (k : Nat) (wr : World) : Prop where
  row : ∃ g c, Blk wr BC 30 #[.int .i64 p, .slice (some ⟨g, 0, none⟩) (2 * k + 1) c, .slice none 0 0] ∧ wr.ownsRow lo 39 3 (.slice (some ⟨g, 0, none⟩) (2 * k + 1) c) (2 * k + 1) ((nst k).flatMap c3)
  g : w2.grownBy wr none
set_option maxRecDepth 100000 in
set_option maxHeartbeats 4000000 in
theorem FnNoMuls.walk (w : World) (A : Option Addr) (n c : Nat) (zs : List Int) (hz : IntsK .u8 w A n zs) (hm : n ≤ maxLen) :
    Calls Try.prog 4 #[.slice A n c] w fun e w' => e = .returned (.bool true) ∧ w.grownBy w' none := by
  unfold maxLen at hm
  by_cases hbig : 1048576 < n
  · have hd : decide (1048576 < n) = true := by simp; omega
    clear hz
    go_enter Try.func4, Try.ntmps4
    go_wp2_with fail
    refine (big_c _ A n c (by omega)).mono ?_
    rintro e w1 ⟨rfl, rfl⟩
    rw [hd]
    go_wp2_with fail
    go_ret
    exact ⟨rfl, gbR _ _⟩
  · have hd : decide (1048576 < n) = false := by simp; omega
    have H := Lib.hid (bytesIn hz (by omega))
    clear hz
    go_enter Try.func4, Try.ntmps4
    go_wp2_with fail
    refine (big_c _ A n c (by omega)).mono ?_
    rintro e w1 ⟨rfl, rfl⟩
    rw [hd]
    go_wp2_with fail
    refine (DrawPrime_c _ A n c zs H.out).mono ?_
    rintro e w1 ⟨p, rfl, hp, hg1⟩
    have hf := nine_field p hp
    obtain ⟨p2, p101⟩ := field_range hf
    have HF := Lib.hid hf
    have G1 := Lib.hid hg1
    clear hp hf hg1
    go_wp2_with fail
    refine (DrawPlaces_c _ A n c zs (H.out.grow G1.out)).mono ?_
    rintro e w2 ⟨v, qs, rfl, hown, hq, hg⟩
    obtain ⟨B, d, rfl, _, _⟩ := own_form hown
    have HI := Lib.hid (show Ints w2 B 12 qs from Rd.ofOwn hown)
    obtain ⟨b, o, rfl, hb, hc⟩ := HI.out.at_ (by omega)
    have q0 := hq.at_ 0 (by omega)
    have q1 := hq.at_ 1 (by omega)
    have HQ := Lib.hid hq
    have G := Lib.hid (gbT G1.out hg)
    have c0 := hc 0 (by omega)
    rw [Nat.add_zero] at c0
    have c1 := hc 1 (by omega)
    obtain ⟨q00, q01⟩ := q0
    obtain ⟨q10, q11⟩ := q1
    obtain ⟨N, hN⟩ : ∃ N : Nat, 1 + qs.getD 1 0 % 8 = (N : Int) := ⟨(1 + qs.getD 1 0 % 8).toNat, by omega⟩
    have hN8 : 1 ≤ N ∧ N ≤ 8 := by omega
    obtain ⟨hN1, hN8⟩ := hN8
    have HN := Lib.hid hN
    have pn0 : (p == 0) = false := by simp; omega
    have pn0' : p ≠ 0 := by omega
    have HW0 : Hid (want p qs 0 = qs.getD 0 0 % p) := rfl
    have HV0 : Hid (inV p qs 0 = qs.getD 0 0 % p) := rfl
    generalize qs.getD 0 0 = y0 at *
    have t0 : Int.tmod y0 p = y0 % p := tmod_emod q00
    have c0' := fun o => kA c0 o
    have w0r := want_rng qs p2 0
    rw [HW0.out] at w0r
    obtain ⟨w0a, w0b⟩ := w0r
    clear hown hc hg hq hN
    go_wp2_with fail
    have C1 := Lib.hid c1
    have C0 := Lib.hid c0
    generalize qs.getD 1 0 = y1 at *
    clear c0 c0' c1
    have NI0 : Hid (NInv p qs b o (w2.heap.size + 1) w2.heap.size w2 0 ((w2.alloc (.cells #[.int .i64 1, .int .i64 0, .int .i64 0] 39)).alloc (.cells #[.int .i64 p, .slice (some ⟨w2.heap.size, 0, none⟩) 1 1, .slice none 0 0] 30))) :=
      ⟨⟨w2.heap.size, 1, Blk.new' _ _ _ _ (by simp), own_grow (ownLit rfl (Nat.le_refl _) #[.int .i64 1, .int .i64 0, .int .i64 0] 39 3 1 rfl (by unfold maxLen; omega)) (gbA (gbR _ none) _)⟩, gbA (gbA (gbR _ none) _) _⟩
    obtain ⟨BC, hBC⟩ : ∃ b, w2.heap.size + 1 = b := ⟨_, rfl⟩
    rw [hBC] at NI0 ⊢
    have hbBC : b ≠ BC := by omega
    have hloBC : w2.heap.size ≤ BC := by omega
    go_loopw [6, 7] (fun s i wr => ∃ k : Nat, k ≤ N ∧ i = .int .i64 k ∧ s = .int .i64 (want p qs k) ∧ Hid (NInv p qs b o BC w2.heap.size w2 k wr)) (fun _ i _ => N - (intOf i).toNat)
    case atStart => exact ⟨0, Nat.zero_le _, rfl, by first | rw [HW0.out] | rw [HW0.out, t0], NI0.out⟩
    case round =>
      clear NI0
      obtain ⟨k, hk, rfl, rfl, hI⟩ := hrel
      obtain ⟨⟨g, cc, hB, hO⟩, hG⟩ := hI.out
      have xr := want_rng qs p2 k
      obtain ⟨xr0, xr1⟩ := xr
      have cB1 := hB.cell 1
      simp at cB1
      have cq1 := gbk hG C1.out
      have hBl := hB.lt
      by_cases hlt : k < N
      · have hcond : (k : Int) < 1 + y1 % 8 := by have := HN.out; omega
        have qk := HQ.out.at_ (2 + k) (by omega)
        obtain ⟨bq, oq, eq, _, cq⟩ := Ints.cell HI.out (k := 2 + k) (by omega)
        injection eq with eq
        injection eq with eq1 eq2
        subst eq1; subst eq2
        have HS : Hid (want p qs (k + 1) = (want p qs k + qs.getD (2 + k) 0) % p) := rfl
        generalize want p qs k = x at *
        generalize qs.getD (2 + k) 0 = y at *
        obtain ⟨qk0, qk1⟩ := qk
        have t1 : Int.tmod (x + y) p = (x + y) % p := tmod_emod (by omega)
        have CQ := Lib.hid cq
        have hgBC := own_ne_blk2 hO hB (by decide)
        have HB := Lib.hid hB
        have HO := Lib.hid hO
        have HG := Lib.hid hG
        clear hI hB hO hG cq
        have hi3 : (2 : Int) + (k : Int) < 12 := by omega
        go_wp2_with (at_builtin; refine wp_appendS _ elStep rfl (.tmp 37) (.tmp 47) rfl w2.heap.size _ (2 * k + 1) _ (own_grow HO.out (gbA (gbR wr none) _)) rfl (some ⟨wr.heap.size, 0, none⟩) 2 2 _ rfl (rdLit rfl _ _ 3 2 rfl) (by simp [Value.oneCell']) (by unfold maxLen; omega) (by omega) (by have := HG.out.size; simp; omega) ?_; intro v' w3 o3 g3; obtain ⟨gn, cn, rfl, _, _⟩ := own_form2 o3 (by omega); have B3 := Lib.hid ((HB.out.grow (gbA (gbR _ none) _)).grown g3 (by simpa [Value.ownBlock] using hgBC.symm)); have O3 := Lib.hid o3; have G3 := Lib.hid (gbN (gbA HG.out _) g3 (fun x hx => (HO.out.lt x hx).1)); have n3 := own_ne_blk2 o3 B3.out (by decide); have e1 := B3.out.cell 1; have f1 := B3.out.frozen 1; have q3 := gbk G3.out CQ.out; have s3 := G3.out.size; simp at e1)
        have hrow : (w3.setCell ⟨BC, 1, none⟩ (.slice (some ⟨gn, 0, none⟩) (2 * k + 1 + 2) cn)).ownsRow w2.heap.size 39 3 (.slice (some ⟨gn, 0, none⟩) (2 * k + 1 + 2) cn) (2 * k + 1 + 2) ((nst (k + 1)).flatMap c3) := by
          rw [nst, List.flatMap_append]
          refine own_grown (r := some BC) ?_ (gbO (gbR w3 _) _) (.inr (by simpa [Value.ownBlock] using n3))
          simpa [c3] using O3.out
        have N1 : Hid (NInv p qs b o BC w2.heap.size w2 (k + 1) (w3.setCell ⟨BC, 1, none⟩ (.slice (some ⟨gn, 0, none⟩) (2 * k + 1 + 2) cn))) :=
          ⟨⟨gn, cn, by rw [show 2 * (k + 1) + 1 = 2 * k + 1 + 2 by omega]; have := B3.out.set_ 1 (.slice (some ⟨gn, 0, none⟩) (2 * k + 1 + 2) cn); simpa using this, by rw [show 2 * (k + 1) + 1 = 2 * k + 1 + 2 by omega]; exact hrow⟩, gbS G3.out hloBC _⟩
        go_roundw
        case rel => exact ⟨k + 1, by omega, by go_num, by rw [HS.out], N1.out⟩
        case measure => simp [intOf]; omega
      · have hkN : k = N := by omega
        subst hkN
        have hcond : ¬ (k : Int) < 1 + y1 % 8 := by have := HN.out; omega
        have hcond' : decide ((k : Int) < 1 + y1 % 8) = false := by simp; have := HN.out; omega
        have cq0 := gbk hG C0.out
        have hgBC := own_ne_blk2 hO hB (by decide)
        have cB2 := hB.cell 2
        have fB2 := hB.frozen 2
        simp at cB2
        have HB := Lib.hid hB
        have HO := Lib.hid hO
        have HG := Lib.hid hG
        have hbl : b < w2.heap.size := hb
        have hsz := HG.out.size
        clear hI hB hO hG xr0 xr1
        go_wp2_with (at_make; refine wp_makeN _ el_int rfl _ _ rfl 60 rfl rfl (by omega) (by unfold maxLen; omega) ?_; intro w6 hown6 hg6; rw [show (Value.int .i64 0).cells = #[.int .i64 0] from rfl, made_one] at hown6; have q6 := gbk hg6 (kA (kS cq0 (by simpa using hbBC) (.slice (some ⟨wr.heap.size, 0, none⟩) 1 1)) (.cells #[.int .i64 (2 * (k : Int))] 3)); have x6 := hown6.cellAt 0 (by omega); have f6 := hown6.frozenAt 0; simp at x6 f6; have hown6' := hown6; have hg6' := hg6)
        have e5 : ((wr.setCell ⟨BC, 2, none⟩ (.slice (some ⟨wr.heap.size, 0, none⟩) 1 1)).alloc (.cells #[.int .i64 (2 * (k : Int))] 3)).heap.size = wr.heap.size + 1 := by simp
        rw [e5] at hown6'
        have hBl2 := HB.out.lt
        have W5B := ((HB.out.set_ 2 (.slice (some ⟨wr.heap.size, 0, none⟩) 1 1)).grow (gbA (gbR _ none) (.cells #[.int .i64 (2 * (k : Int))] 3)))
        simp at W5B
        have W5O := own_grow (own_grown HO.out (gbO (gbR wr (some BC)) (o := 2) (.slice (some ⟨wr.heap.size, 0, none⟩) 1 1)) (.inr (by simpa [Value.ownBlock] using hgBC))) (gbA (gbR _ none) (.cells #[.int .i64 (2 * (k : Int))] 3))
        have W5L := ownLit (w := wr.setCell ⟨BC, 2, none⟩ (.slice (some ⟨wr.heap.size, 0, none⟩) 1 1)) (base := w2.heap.size) (g := wr.heap.size) (by simp) hsz #[.int .i64 (2 * (k : Int))] 3 1 1 rfl (by unfold maxLen; omega)
        have W5G := gbA (gbS HG.out hloBC (.slice (some ⟨wr.heap.size, 0, none⟩) 1 1) (p := ⟨BC, 2, none⟩)) (.cells #[.int .i64 (2 * (k : Int))] 3)
        have B6 := Lib.hid (W5B.grow hg6')
        have O6 := Lib.hid (own_grow W5O hg6')
        have L6 := Lib.hid (own_grow W5L hg6')
        have G6 := Lib.hid (gbT W5G hg6')
        have hgl := (HO.out.lt g rfl).2
        have I0 := (hown6'.stored 0 (.int .i64 (y0 % p))).1
        rw [← HV0.out, inP_zero] at I0
        have IO := Lib.hid (own_base I0 (Nat.zero_le _))
        obtain ⟨gI, hgI⟩ : ∃ g, wr.heap.size + 1 = g := ⟨_, rfl⟩
        rw [hgI] at IO ⊢
        have M6 : Hid (w6.grownBy (w6.setCell ⟨gI, 0, none⟩ (.int .i64 (inV p qs 0))) (some gI)) := gbO (gbR w6 (some gI)) _
        rw [HV0.out] at IO M6
        clear W5B W5O W5L W5G I0 x6 f6 q6 hown6' hg6'
        have gI_lt : w2.heap.size < gI := by omega
        have hBCg : BC < gI := by omega
        have hgg : g < gI := by omega
        obtain ⟨L, hL⟩ : ∃ L, wr.heap.size = L := ⟨_, rfl⟩
        have hLg : L < gI := by omega
        rw [hL] at B6 L6 ⊢
        clear hL hgl
        clear cq0 cB1 cB2 fB2 cq1 hBl hBl2 hsz e5 hgI hcond hcond'
        go_loopw [9] (fun i wi => ∃ j : Nat, j ≤ 8 ∧ i = .int .i64 j ∧ Hid (wi.ownsRow 0 3 1 (.slice (some ⟨gI, 0, none⟩) 60 60) 60 ((inP p qs j).map (Value.int .i64))) ∧ Hid (w6.grownBy wi (some gI))) (fun i _ => 8 - (intOf i).toNat)
        case atStart => exact ⟨0, Nat.zero_le _, rfl, IO.out, M6.out⟩
        case round =>
          clear IO M6
          obtain ⟨j, hj, rfl, hI, hM⟩ := hrel
          by_cases hlt2 : j < 8
          · have i1 : (j : Int) < 8 := by omega
            have qk := HQ.out.at_ (2 + j) (by omega)
            obtain ⟨bq, oq, eq, hbq, cq⟩ := Ints.cell (k := 2 + j) (Ints.grow HI.out G6.out) (by omega)
            injection eq with eq
            injection eq with eq1 eq2
            subst eq1; subst eq2
            have hbg : b ≠ gI := by omega
            have cq' : wr.cell? ⟨b, o + (2 + j), none⟩ = some (.int .i64 (qs.getD (2 + j) 0)) := (gbCell hM.out (p := ⟨b, o + (2 + j), none⟩) hbq (fun e => hbg (by injection e))).trans cq
            have HVS : Hid (inV p qs (j + 1) = qs.getD (2 + j) 0 % p) := by unfold Hid inV; rw [if_neg (by omega), if_pos (by omega), show j + 1 + 1 = 2 + j by omega]
            obtain ⟨y, hy⟩ : ∃ y, qs.getD (2 + j) 0 = y := ⟨_, rfl⟩
            rw [hy] at cq' HVS qk
            obtain ⟨qk0, qk1⟩ := qk
            have t1 : Int.tmod y p = y % p := tmod_emod qk0
            have xI : wr.cell? ⟨gI, j + 1, none⟩ = some (.int .i64 ((inP p qs j).getD (j + 1) 0)) := by
              rw [hI.out.cellAt (j + 1) (by omega), List.getElem?_map, List.getD_eq_getElem?_getD]
              have : j + 1 < (inP p qs j).length := by simp [inP]; omega
              rw [List.getElem?_eq_getElem this]; rfl
            have fI := hI.out.frozenAt (j + 1)
            have i2 : (j : Int) + 1 < 60 := by omega
            have i3 : (2 : Int) + (j : Int) < 12 := by omega
            have I1 := (hI.out.stored (j + 1) (.int .i64 (y % p))).1
            rw [← HVS.out, inP_set _ _ _ (by omega), HVS.out] at I1
            have I1' := Lib.hid I1
            have M1 := Lib.hid (gbO hM.out (o := j + 1) (.int .i64 (y % p)))
            clear hy cq hI hM I1
            go_wp2_with fail
            go_roundw
            case rel => exact ⟨j + 1, by omega, by go_num, I1'.out, M1.out⟩
            case measure => simp [intOf]; omega
          · have hj8 : j = 8 := by omega
            subst hj8
            have GW : Hid (w6.grownBy wr (some gI)) := hM.out
            have R := Lib.hid hI.out
            rw [inP_all] at R
            have B8 := Lib.hid (B6.out.grown GW.out (fun e => by injection e with e; omega))
            have O8 := Lib.hid (own_grown O6.out GW.out (.inr (by simp [Value.ownBlock]; omega)))
            have L8 := Lib.hid (own_grown L6.out GW.out (.inr (by simp [Value.ownBlock]; omega)))
            have G8 := Lib.hid (gbN G6.out GW.out (fun x hx => by injection hx with hx; omega))
            have HAG : Hid (AggR wr (carith (nM p k)) (.agg #[.int .i64 p, .slice (some ⟨g, 0, none⟩) (2 * k + 1) cc, .slice (some ⟨L, 0, none⟩) 1 1])) :=
              carith_mk (m := nM p k) (CS.toRd _ (plst_own (s := 3) (fun _ => rfl) (by omega) c3_one O8.out)) (CS.toRd _ (cints_own (xs := [2 * (k : Int)]) L8.out))
            have WF := Lib.hid (nM_wf p2 p101 hN8)
            have b0 := B8.out.cell 0
            have b1 := B8.out.cell 1
            have b2 := B8.out.cell 2
            simp at b0 b1 b2
            clear hI hM GW B6 O6 L6
            go_wp2_with fail
            refine (implEvalArith_c (nM p k) _ (some ⟨gI, 0, none⟩) 60 60 (nins p qs) _ HAG.out WF.out (Rd.ofOwn R.out) (by omega) (by simp [nM])).mono ?_
            rintro e w9 ⟨V, rfl, oV, gV⟩
            rw [evB_yes (nM_ev HF.out qs hN8)]
            rw [nM_out HF.out qs hN8] at oV
            obtain ⟨gv, cv, rfl, hcv, _, _⟩ := own_form2 oV (by simp)
            have xV := oV.cellAt 0 (by simp)
            have HG9 := Lib.hid (HAG.out.grow gV)
            have B9 := Lib.hid (B8.out.grow gV)
            have G9 := Lib.hid (gbT G8.out gV)
            have XV : Hid (w9.cell? ⟨gv, 0, none⟩ = some (.int .i64 (want p qs k))) := xV
            have CR := Lib.hid (fun (v : Value) (w : World) (h : AggR w (carith (nM p k)) v) => (implRoundsOf_c (nM p k) v w h WF.out))
            rw [nM_rounds HF.out hN8] at CR
            have CM := Lib.hid (fun (v : Value) (w : World) (h : AggR w (carith (nM p k)) v) => (implCountMuls_c (nM p k) v w h))
            rw [nM_muls] at CM
            have CD := Lib.hid (fun (v : Value) (w : World) (h : AggR w (carith (nM p k)) v) => (implMulDepth_c (nM p k) v w h WF.out))
            rw [nM_mdepth HF.out hN8] at CD
            generalize want p qs k = x at *
            clear oV gV b0 b1 b2 xV
            go_wp2_with fail
            refine region_grow [isV (.bool true), isV (.bool true), isV (.slice (some ⟨gv, 0, none⟩) 1 cv), isV (.int .i64 1), isV (.bool true), isV (.bool true), isV (.bool true), isV (.slice (some ⟨gv, 0, none⟩) 1 cv), isV (.pointer (some ⟨gv, 0, none⟩)), isV (.int .i64 x), isV (.int .i64 x), isV (.bool true), isV (.bool true), isV (.bool true), isV (.agg #[.int .i64 p, .slice (some ⟨g, 0, none⟩) (2 * k + 1) cc, .slice (some ⟨L, 0, none⟩) 1 1]), isV (.int .i64 0), isV (.bool true), isV (.bool true), isV (.bool true), isV (.agg #[.int .i64 p, .slice (some ⟨g, 0, none⟩) (2 * k + 1) cc, .slice (some ⟨L, 0, none⟩) 1 1]), isV (.int .i64 0), isV (.bool true), isV (.bool true), isV (.bool true), isV (.agg #[.int .i64 p, .slice (some ⟨g, 0, none⟩) (2 * k + 1) cc, .slice (some ⟨L, 0, none⟩) 1 1]), isRow (2 * k + 1), isV (.int .i64 ((2 * k + 1 : Nat) : Int)), isV (.pointer (some ⟨BC, 1, none⟩)), isV (.slice (some ⟨g, 0, none⟩) (2 * k + 1) cc), isV (.int .i64 ((2 * k + 1 : Nat) : Int)), isV (.bool true), isV (.bool true), isV (.bool true)] (by kernel_rfl) (by kernel_rfl) (by kernel_rfl) (by simp [stables, isV_st, isRow_st]) ?_ ?_
            · simp only [hops, and_true]
              refine ⟨?_, ?_, ?_, ?_, ?_, ?_, ?_, ?_, ?_, ?_, ?_, ?_, ?_, ?_, ?_, ?_, ?_, ?_, ?_, ?_, ?_, ?_, ?_, ?_, ?_, ?_, ?_, ?_, ?_, ?_, ?_, ?_, ?_⟩
              rotate_left 26
              · intro f w4 hG
                clear hG
                simp [deps, tAt, isV, isRow]
                intro Ad cd hd0 hd1
                simp [puts, dsts, Act.put, hd0, hd1]
                go_wp2_with fail
                first | exact gbR _ _ | exact ⟨gbR _ _, rfl⟩ | exact ⟨rfl, gbR _ _⟩ | exact ⟨rfl, gbR _ _, rfl⟩ | exact ⟨_, gbR _ _⟩ | (refine ⟨?_, ?_⟩ <;> first | exact gbR _ _ | rfl | trivial | (simp; done))
              rotate_left 5
              · intro f w4 hG
                clear hG
                simp [deps, tAt, isV, isRow]
                intro h31
                intros
                simp [puts, dsts, Act.put, h31]
                go_wp2_with fail
                first | exact gbR _ _ | exact ⟨gbR _ _, rfl⟩ | exact ⟨rfl, gbR _ _⟩ | exact ⟨rfl, gbR _ _, rfl⟩ | exact ⟨_, gbR _ _⟩ | (refine ⟨?_, ?_⟩ <;> first | exact gbR _ _ | rfl | trivial | (simp; done))
              all_goals
                intro f w4 hG hd
                have k0 := gbk hG (kD (B9.out.cell 0))
                have k1 := gbk hG (kD (B9.out.cell 1))
                have k2 := gbk hG (kD (B9.out.cell 2))
                have k3 := gbk hG (kD XV.out)
                have HG4 := Lib.hid ((HG9.out.grow (gbD (gbR w9 none))).grow hG)
                simp at k0 k1 k2
                clear hG
                simp [deps, tAt, isV] at hd
                first | simp [puts, dsts, Act.put, hd] | simp [puts, dsts, Act.put]
                clear hd
                go_wp2_with (first | (go_at_call 30; refine (CR.out _ _ HG4.out).mono ?_; rintro e w5 ⟨rfl, hw⟩) | (go_at_call 24; refine (CM.out _ _ HG4.out).mono ?_; rintro e w5 ⟨rfl, hw⟩) | (go_at_call 31; refine (CD.out _ _ HG4.out).mono ?_; rintro e w5 ⟨v5, rfl, o5, hw⟩; rw [List.length_replicate] at o5; obtain ⟨A5, c5, rfl, _, _⟩ := own_form o5))
                all_goals first
                  | exact ⟨_, rfl, by first | with_reducible exact gbR _ _ | exact hw, by first | (simp [tAt, isV]; done) | exact ⟨_, _, rfl⟩⟩
            · intro f w4 hG
              simp [knows, tAt, isV, isRow]
              intro h0 h1 h2 h3 h4 h5 h6 h7 h8 h9 h10 h11 h12 h13 h14 h15 h16 h17 h18 h19 h20 h21 h22 h23 h24 Ad cd h25 h26 h27 h28 h29 h30 h31 h32
              have GE := Lib.hid (gbT G.out (gbT G9.out (gbT (gbD (gbR w9 none)) hG)))
              clear hG
              simp only [puts, dsts, Act.put, h0, h1, h2, h3, h4, h5, h6, h7, h8, h9, h10, h11, h12, h13, h14, h15, h16, h17, h18, h19, h20, h21, h22, h23, h24, h25, h26, h27, h28, h29, h30, h31, h32, List.filterMap_cons, List.filterMap_nil, List.setIfInBounds_toArray, List.set_cons_zero, List.set_cons_succ]
              clear h0 h1 h2 h3 h4 h5 h6 h7 h8 h9 h10 h11 h12 h13 h14 h15 h16 h17 h18 h19 h20 h21 h22 h23 h24 h25 h26 h27 h28 h29 h30 h31 h32
              go_wp2_with fail
              go_ret
              exact ⟨rfl, GE.out⟩
end Go.Proofs.Ytapljpcpmdlppaa
