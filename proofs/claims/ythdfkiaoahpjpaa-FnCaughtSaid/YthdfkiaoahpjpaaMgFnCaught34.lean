/-
  PublicOf of the program.
-/
import Derived.Test.YthdfkiaoahpjpaaMgFnCaught33
namespace Go.Proofs.Ythdfkiaoahpjpaa
open Go.RowKit
set_option linter.unusedVariables false
set_option linter.unusedSimpArgs false
section
variable {ops : Array Oper} {rest : List Oper} {o : Oper} {a : Act} {Q : Exit → Act → World → Prop}
theorem wp_pushG (wr : World) (g : Nat) (hgs : wr.heap.size = g) (hgd : o.guard = none) (s x : Operand)
    (ho : o.op = .call { callee := .builtin .append, args := #[s, x], argTypes := #[24, 24] }) (z : Int) (A : Option Addr) (n c : Nat) (xs : List Int) (Fi : List Nat) (hown : (cints xs).own wr Fi (.slice A n c)) (hl : xs.length = n)
    (hs : a.eval s = .slice A n c) (hx : a.eval x = .slice (some ⟨g, 0, none⟩) 1 1) (hn : n ≤ 2000000)
    (h : ∀ A' c' w' F', Hid ((cints (xs ++ [z])).own w' F' (.slice A' (n + 1) c')) → Hid (Chg (fun y => y ∈ Fi) (wr.alloc (.cells #[.int .i64 z] 3)) w') → Hid (∀ y ∈ F', y ∈ Fi ∨ wr.heap.size ≤ y) → wpList Try.prog ops Q rest (a.put o.dst (.slice A' (n + 1) c')) w') :
    wpList Try.prog ops Q (o :: rest) a (wr.alloc (.cells #[.int .i64 z] 3)) := by
  obtain ⟨A2, c2, e2, hF2, hrow⟩ := cints_row hown
  have hr := hrow 0 (fun _ _ => Nat.zero_le _)
  rw [hl] at hr
  refine wp_appendG wr g hgs el_int hgd s x ho #[.int .i64 z] rfl (by simp [Value.oneCell']) 0 _ n (xs.map (Value.int .i64)) hr hs hx (by unfold maxLen; omega) (by omega) (Nat.zero_le _) fun v' w9 o9 g9 k9 => ?_
  obtain ⟨A6, c6, rfl, _⟩ := own_form o9
  refine h A6 c6 w9 _ (Lib.hid (cints_own (n := n + 1) (base := 0) (by rw [List.map_append]; simpa using o9))) (Lib.hid (Chg.of g9 (fun y hy => by rw [hF2]; simpa using hy))) (Lib.hid fun y hy => ?_)
  rcases k9 y (by simpa using hy) with h1 | h1
  · left
    rw [hF2]
    simpa using h1.symm
  · right; omega
end
set_option maxHeartbeats 1600000 in
set_option maxRecDepth 100000 in
theorem implPublicOf_yes (m : CM) (s : Nat) (v u : Value) (w0 : World) (h : AggR w0 (ccircuit m) v) (ok : COk m) (hql : m.outs.length ≤ 1048576) (hg : AggR w0 (cgarb (dltN s) (garZ s m.gt m.gt.length) (garT s m.gt m.gt.length)) u) :
    Calls Try.prog 77 #[v, u] w0 fun e w' => ∃ V, e = .returned (.tuple #[V, .bool true]) ∧ aggF w0.heap.size (cpub (garT s m.gt m.gt.length) (conTo s m.gt (garZ s m.gt m.gt.length) m.gt.length) (decTo m (garZ s m.gt m.gt.length) m.outs.length)) V w' ∧ w0.grownBy w' none := by
  have HV := Lib.hid h
  have HG := Lib.hid hg
  have OKG := fun (v u : Value) (w : World) (h : AggR w (ccircuit m) v) (hg : AggR w (cgarb (dltN s) (garZ s m.gt m.gt.length) (garT s m.gt m.gt.length)) u) => implGarbledOk_yes m s v u w h ok hg
  obtain ⟨u0, u1, rfl, h1, h2⟩ := ccircuit_open h
  obtain ⟨A, cA, rfl, hc, hm, hF⟩ := plst_rd (s := 3) (fun _ => rfl) (by omega) h1
  obtain ⟨B, cB, rfl, _, _, hB⟩ := cints_rd h2
  obtain ⟨Z, cz, T, ct, rfl, iz, it⟩ := gar_open hg
  have hn6 : m.gt.length ≤ 6000 := ok.few
  have hgl : gts m.gt 4 m.gt.length ≤ m.gt.length := gts_le m.gt 4 m.gt.length
  have lt := garT_len s m.gt m.gt.length (Nat.le_refl _)
  have hz := garZ_len s m.gt m.gt.length
  have LL := Lib.hid (garZ_lab s m.gt m.gt.length)
  obtain ⟨zs, hzs⟩ : ∃ x, garZ s m.gt m.gt.length = x := ⟨_, rfl⟩
  obtain ⟨ts, hts⟩ : ∃ x, garT s m.gt m.gt.length = x := ⟨_, rfl⟩
  rw [hzs] at iz hz LL OKG HG ⊢
  rw [hts] at it lt OKG HG ⊢
  rw [hz] at iz HG ⊢
  have hd6 := dltN_lt s
  obtain ⟨dd, hdd⟩ : ∃ dd, dltN s = dd := ⟨_, rfl⟩
  have HDD := Lib.hid hdd
  rw [hdd] at hd6 OKG HG ⊢
  obtain ⟨r, hr⟩ : ∃ r, ts.length = r := ⟨_, rfl⟩
  rw [hr] at it lt HG ⊢
  have hr6 : r ≤ 12000 := by omega
  have HOKG := Lib.hid OKG
  have OK := Lib.hid ok
  obtain ⟨q, hq⟩ : ∃ q, m.outs.length = q := ⟨_, rfl⟩
  rw [hq] at HV hB hql ⊢
  obtain ⟨n, hn⟩ : ∃ n, m.gt.length = n := ⟨_, rfl⟩
  rw [hn] at HV HG hc hF hn6 iz ⊢
  have HN := Lib.hid hn
  have HQ := Lib.hid hq
  have IZ := Lib.hid iz
  have IT := Lib.hid it
  have IB := Lib.hid hB
  have HF := Lib.hid hF
  clear OKG h h1 h2 hF hB ok hn hm hdd hg iz it hz lt hzs hts hr hq hgl
  obtain ⟨w1, hw1⟩ : ∃ x : World, ((w0.alloc (.cells #[.slice A n cA, .slice B q cB] 28)).alloc (.cells #[.int .i64 dd, .slice Z n cz, .slice T r ct] 100)).alloc (.cells #[.slice none 0 0, .slice none 0 0, .slice none 0 0] 70) = x := ⟨_, rfl⟩
  have G1 : Hid (w0.grownBy w1 none) := by rw [← hw1]; exact Lib.hid (gbA (gbA (gbA (gbR _ _) _) _) _)
  have D1 : Hid (Blk w1 w0.heap.size 28 #[.slice A n cA, .slice B q cB]) := by rw [← hw1]; exact Lib.hid ((Blk.new w0 _ _).grow (gbA (gbA (gbR _ _) _) _))
  have T1 : Hid (Blk w1 (w0.heap.size + 1) 100 #[.int .i64 dd, .slice Z n cz, .slice T r ct]) := by rw [← hw1]; exact Lib.hid ((Blk.new' _ _ _ _ (by simp)).grow (gbA (gbR _ _) _))
  have R1 : Hid (Blk w1 (w0.heap.size + 1 + 1) 70 #[.slice none 0 0, .slice none 0 0, .slice none 0 0]) := by rw [← hw1]; exact Lib.hid (Blk.new' _ _ _ _ (by simp))
  have c0 := D1.out.cell 0
  have c1 := D1.out.cell 1
  have t0 := T1.out.cell 0
  have t1 := T1.out.cell 1
  have t2 := T1.out.cell 2
  simp at c0 c1 t0 t1 t2
  go_enter Try.func77, Try.ntmps77
  go_wp2_with fail
  clear c0 c1 t0 t1 t2 hw1
  refine (HOKG.out _ _ w1 (HV.out.grow G1.out) (HG.out.grow G1.out)).mono ?_
  rintro e w3 ⟨rfl, g3⟩
  have G3 := Lib.hid (gbT G1.out g3)
  have D3 := Lib.hid (D1.out.grow g3)
  have T3 := Lib.hid (T1.out.grow g3)
  have R3 := Lib.hid (R1.out.grow g3)
  clear D1 T1 R1 G1 g3 HOKG
  have t2 := T3.out.cell 2
  simp at t2
  go_wp2_with fail
  clear t2
  refine (ints_c T r ct ts _ (IT.out.grow G3.out) (by omega)).mono ?_
  rintro e wi ⟨v4, rfl, o4, g4⟩
  have G4 := Lib.hid g4
  have O4 : Hid (ownF w3.heap.size (cints ts) v4 wi) := Lib.hid (ownF.ints o4)
  obtain ⟨A4, c4, rfl, _⟩ := own_form o4
  clear o4 g4
  have S5 := Lib.hid (pub_new 70 O4.out G4.out.size)
  have GA := gbA (gbR wi none) (.cells #[.slice A4 r c4, .slice none 0 0, .slice none 0 0] 70)
  have c0 := (D3.out.grow (gbT G4.out GA)).cell 0
  have c1 := (D3.out.grow (gbT G4.out GA)).cell 1
  have G5 := Lib.hid (gbT G4.out GA)
  clear GA
  simp at c0 c1
  go_wp2_with fail
  clear c0 c1
  go_loopw [23] (fun i wr => ∃ k : Nat, k ≤ n ∧ i = .int .i64 k ∧ Hid (sofF w3.heap.size 70 (cpub ts (conTo s m.gt zs k) []) wi.heap.size wr) ∧ Hid (w3.grownBy wr none)) (fun i _ => n - (intOf i).toNat)
  case atStart => exact ⟨0, Nat.zero_le _, rfl, S5, G5⟩
  case round =>
    clear S5 G5
    obtain ⟨k, hk, rfl, SR, GR⟩ := hrel
    by_cases hlt : k < n
    · have i1 : (k : Int) < (n : Int) := by omega
      obtain ⟨b, o, x, y, z, rfl, hbl, hx, q0, q1, q2⟩ := gates_at (FL.grow HF.out (gbT G3.out GR.out)) hlt
      have hX : m.gt.getD k (0, 0, 0) = (x, y, z) := by simp [List.getD_eq_getElem?_getD, hx]
      have hgb : gateB k (x, y, z) = true := by have := OK.out.gates k (by rw [HN.out]; exact hlt); unfold gtAt at this; rwa [hX] at this
      have HX := Lib.hid hX
      clear hx hX
      obtain ⟨w7, hw7⟩ : ∃ q : World, wr.alloc (.cells #[.int .i64 x, .int .i64 y, .int .i64 z] 41) = q := ⟨_, rfl⟩
      have g7 : wr.grownBy w7 none := by rw [← hw7]; exact gbA (gbR _ _) _
      have BG : Hid (Blk w7 wr.heap.size 41 #[.int .i64 x, .int .i64 y, .int .i64 z]) := by rw [← hw7]; exact Lib.hid (Blk.new wr _ _)
      have S7 := Lib.hid (sofF.grow SR.out g7)
      have G7 := Lib.hid (gbT GR.out g7)
      have T7 := Lib.hid (T3.out.grow G7.out)
      have hz7 := g7.size
      have GW := Lib.hid g7
      clear g7
      have k0 := BG.out.cell 0
      have k1 := BG.out.cell 1
      simp at k0 k1
      by_cases h2 : x = 2
      · subst h2
        have HC : Hid (conTo s m.gt zs (k + 1) = conTo s m.gt zs k ++ [((labN (zs.getD k 0).toNat dd y.toNat : Nat) : Int)]) := by
          rw [conTo, HX.out, if_pos rfl, HDD.out]
          exact Lib.hid rfl
        obtain ⟨a, rfl, ha1⟩ : ∃ a : Nat, y = (a : Int) ∧ a ≤ 1 := by
          rcases gateB_kind hgb with ⟨h, _⟩ | ⟨_, hy⟩ | ⟨h, _⟩ | ⟨h, _⟩ | ⟨h, _⟩
          · omega
          · have h1 := hy.1; have h2 := hy.2; exact ⟨y.toNat, by omega, by omega⟩
          · omega
          · omega
          · omega
        obtain ⟨zk, hzk, hz6⟩ := lab_get LL.out k
        rw [hzk, Int.toNat_natCast, Int.toNat_natCast] at HC
        obtain ⟨lb, hlb⟩ : ∃ q, labN zk dd a = q := ⟨_, rfl⟩
        rw [hlb] at HC
        have HLB := Lib.hid hlb
        obtain ⟨nc, hnc⟩ : ∃ q, (conTo s m.gt zs k).length = q := ⟨_, rfl⟩
        have hnc6 : nc ≤ k := by rw [← hnc]; exact conTo_le s m.gt zs k
        obtain ⟨A1, c1, F1, pc, -, ho1, ⟨hf1, hf2, hf3⟩, hpu⟩ := sof_row (i := 1) SR.out rfl hnc G4.out.size
        obtain ⟨bz, oz, rfl, hbz, qz⟩ := IZ.out.cell hlt
        rw [hzk] at qz
        have t0 := T7.out.cell 0
        have t1 := T7.out.cell 1
        simp at t0 t1
        have PC := Lib.hid (gbk GW.out pc)
        have QZ := Lib.hid (gbk (gbT G3.out G7.out) qz)
        have hz0 := G3.out.size
        have TT0 := Lib.hid t0
        have TT1 := Lib.hid t1
        have K1 := Lib.hid k1
        have HO1 := Lib.hid ho1
        have HPU := Lib.hid hpu
        have HF1 := Lib.hid hf1
        have HF2 := Lib.hid hf2
        have HNC := Lib.hid hnc
        have hz3 := T3.out.lt
        have hg7 := G7.out.size
        have hbg := BG.out.lt
        clear ho1 hpu pc qz t0 t1 hnc hlb hf1 hf2 hzk SR
        clear k1
        go_wp2_with fail
        try rw [hw7]
        clear k0 hw7
        refine region_chain [.rd (.pointer (some ⟨wi.heap.size, 1, none⟩)), .rd (.slice A1 nc c1), .rd (.pointer (some ⟨w0.heap.size + 1, 1, none⟩)), .rd (.slice (some ⟨bz, oz, none⟩) n cz), .rd (.int .i64 k), .rd (.pointer (some ⟨bz, oz + k, none⟩)), .rd (.int .i64 zk), .rd (.pointer (some ⟨w0.heap.size + 1, 0, none⟩)), .rd (.int .i64 dd), .rd (.pointer (some ⟨wr.heap.size, 1, none⟩)), .rd (.int .i64 a), .ch, .ch, .ch, .rd (.pointer (some ⟨wi.heap.size, 1, none⟩)), .ch] (fun y => y ∈ F1)
          [⟨[], fun _ w' => w' = w7.drew⟩,
           ⟨[42], fun l w' => w7.drew.grownBy w' none ∧ l.getD 0 undef = .int .i64 lb⟩,
           ⟨[43], fun l w' => ∃ w5, w' = w5.alloc (.cells #[.int .i64 lb] 3) ∧ l.getD 0 undef = .slice (some ⟨w5.heap.size, 0, none⟩) 1 1 ∧ w7.drew.grownBy w5 none⟩,
           ⟨[44], fun l w' => ∃ A8 c8, l.getD 0 undef = .slice A8 (nc + 1) c8 ∧ ∃ F8, (cints (conTo s m.gt zs k ++ [(lb : Int)])).own w' F8 (.slice A8 (nc + 1) c8) ∧ Chg (fun y => y ∈ F1) wr w' ∧ ∀ y ∈ F8, y ∈ F1 ∨ wr.heap.size ≤ y⟩,
           ⟨[], fun _ w' => sofF w3.heap.size 70 (cpub ts (conTo s m.gt zs (k + 1)) []) wi.heap.size w' ∧ w3.grownBy w' none⟩]
          (by kernel_rfl) (by kernel_rfl) (by kernel_rfl) 4 (by kernel_rfl) (by simp only [flOk, and_true]) rfl rfl ?_ ?_
        · simp only [hopsK, hopK, Kd.next, and_true]
          refine ⟨?_, ?_, ?_, ?_, ?_, ?_, ?_, ?_, ?_, ?_, ?_, ?_, ?_, ?_, ?_, ?_⟩
          · intro f w4 hG hd
            (try simp [depsC, dstAt, kAt, bindE, List.filter_cons, bd_data, bd_chain, bd_guard, bd_phase, bd_text, bd_gc] at hd)
            (first | simp [puts, dsts, Act.put, hd] | simp [puts, dsts, Act.put])
            clear hd
            go_wp2_with fail
            exact ⟨rfl, rfl⟩
          · intro f w4 hG hd
            have b5 := hG.cell (gbk (gbD (gbR w7 none)) PC.out) (by simp; omega) (fun e => by exact HF2.out e)
            (try simp [depsC, dstAt, kAt, bindE, List.filter_cons, bd_data, bd_chain, bd_guard, bd_phase, bd_text, bd_gc] at hd)
            (first | simp [puts, dsts, Act.put, hd] | simp [puts, dsts, Act.put])
            clear hd
            go_wp2_with fail
            exact ⟨rfl, rfl⟩
          · intro f w4 hG hd
            (try simp [depsC, dstAt, kAt, bindE, List.filter_cons, bd_data, bd_chain, bd_guard, bd_phase, bd_text, bd_gc] at hd)
            (first | simp [puts, dsts, Act.put, hd] | simp [puts, dsts, Act.put])
            clear hd
            go_wp2_with fail
            exact ⟨rfl, rfl⟩
          · intro f w4 hG hd
            have b5 := hG.cell (gbk (gbD (gbR w7 none)) TT1.out) (by simp; omega) (fun e => by have := (HF1.out _ e).1; omega)
            (try simp [depsC, dstAt, kAt, bindE, List.filter_cons, bd_data, bd_chain, bd_guard, bd_phase, bd_text, bd_gc] at hd)
            (first | simp [puts, dsts, Act.put, hd] | simp [puts, dsts, Act.put])
            clear hd
            go_wp2_with fail
            exact ⟨rfl, rfl⟩
          · intro f w4 hG hd
            (try simp [depsC, dstAt, kAt, bindE, List.filter_cons, bd_data, bd_chain, bd_guard, bd_phase, bd_text, bd_gc] at hd)
            (first | simp [puts, dsts, Act.put, hd] | simp [puts, dsts, Act.put])
            clear hd
            go_wp2_with fail
            exact ⟨rfl, rfl⟩
          · intro f w4 hG hd
            (try simp [depsC, dstAt, kAt, bindE, List.filter_cons, bd_data, bd_chain, bd_guard, bd_phase, bd_text, bd_gc] at hd)
            (first | simp [puts, dsts, Act.put, hd] | simp [puts, dsts, Act.put])
            clear hd
            go_wp2_with fail
            exact ⟨rfl, rfl⟩
          · intro f w4 hG hd
            have b5 := hG.cell (gbk (gbD (gbR w7 none)) QZ.out) (by simp; omega) (fun e => by have := (HF1.out _ e).1; omega)
            (try simp [depsC, dstAt, kAt, bindE, List.filter_cons, bd_data, bd_chain, bd_guard, bd_phase, bd_text, bd_gc] at hd)
            (first | simp [puts, dsts, Act.put, hd] | simp [puts, dsts, Act.put])
            clear hd
            go_wp2_with fail
            exact ⟨rfl, rfl⟩
          · intro f w4 hG hd
            (try simp [depsC, dstAt, kAt, bindE, List.filter_cons, bd_data, bd_chain, bd_guard, bd_phase, bd_text, bd_gc] at hd)
            (first | simp [puts, dsts, Act.put, hd] | simp [puts, dsts, Act.put])
            clear hd
            go_wp2_with fail
            exact ⟨rfl, rfl⟩
          · intro f w4 hG hd
            have b5 := hG.cell (gbk (gbD (gbR w7 none)) TT0.out) (by simp; omega) (fun e => by have := (HF1.out _ e).1; omega)
            (try simp [depsC, dstAt, kAt, bindE, List.filter_cons, bd_data, bd_chain, bd_guard, bd_phase, bd_text, bd_gc] at hd)
            (first | simp [puts, dsts, Act.put, hd] | simp [puts, dsts, Act.put])
            clear hd
            go_wp2_with fail
            exact ⟨rfl, rfl⟩
          · intro f w4 hG hd
            (try simp [depsC, dstAt, kAt, bindE, List.filter_cons, bd_data, bd_chain, bd_guard, bd_phase, bd_text, bd_gc] at hd)
            (first | simp [puts, dsts, Act.put, hd] | simp [puts, dsts, Act.put])
            clear hd
            go_wp2_with fail
            exact ⟨rfl, rfl⟩
          · intro f w4 hG hd
            have b5 := hG.cell (gbk (gbD (gbR w7 none)) K1.out) (by simp; omega) (fun e => by have := (HF1.out _ e).2; omega)
            (try simp [depsC, dstAt, kAt, bindE, List.filter_cons, bd_data, bd_chain, bd_guard, bd_phase, bd_text, bd_gc] at hd)
            (first | simp [puts, dsts, Act.put, hd] | simp [puts, dsts, Act.put])
            clear hd
            go_wp2_with fail
            exact ⟨rfl, rfl⟩
          · intro f w4 hG hI hd
            have hI : w4 = w7.drew := hI
            subst hI
            (try simp [depsC, dstAt, kAt, bindE, List.filter_cons, bd_data, bd_chain, bd_guard, bd_phase, bd_text, bd_gc] at hd)
            (first | simp [puts, dsts, Act.put, hd] | simp [puts, dsts, Act.put])
            clear hd
            go_wp2_with fail
            refine (implLabelFor_yes zk dd a w7.drew hz6 hd6 ha1).mono ?_
            rintro e' w6 ⟨rfl, hw⟩
            rw [HLB.out]
            have HW := Lib.hid hw
            clear hw
            go_wp2_with fail
            exact ⟨_, rfl, ⟨HW.out, rfl⟩, ⟨Chg.of HW.out (by simp), by simp [keepsC, dstAt]⟩⟩
          · intro f w4 hG hI hd
            obtain ⟨h1, h2⟩ := hI
            have h2 : f 42 = .int .i64 lb := h2
            clear hd
            simp [puts, dsts, Act.put, h2]
            go_wp2_with fail
            exact ⟨_, rfl, ⟨w4, rfl, rfl, h1⟩, ⟨Chg.of (gbA (gbR _ none) _) (by simp), by simp [keepsC, dstAt]⟩⟩
          · intro f w4 hG hI hd
            obtain ⟨w5, rfl, e43, h1⟩ := hI
            have e43 : f 43 = .slice (some ⟨w5.heap.size, 0, none⟩) 1 1 := e43
            (try simp [depsC, dstAt, kAt, bindE, List.filter_cons, bd_data, bd_chain, bd_guard, bd_phase, bd_text, bd_gc] at hd)
            simp [puts, dsts, Act.put, hd, e43]
            have gg5 : wr.grownBy w5 none := gbT GW.out (gbT (gbD (gbR _ _)) h1)
            refine wp_pushG w5 w5.heap.size rfl rfl (.tmp 32) (.tmp 43) rfl lb A1 nc c1 (conTo s m.gt zs k) F1 (own_growK _ HO1.out gg5) HNC.out rfl rfl (by omega) ?_
            intro A8 c8 w9 F8 O8 C8 S8
            have hs5 := gg5.size
            go_wp2_with fail
            refine ⟨_, rfl, ⟨A8, c8, rfl, F8, O8.out, ((Chg.of gg5 (by simp)).trans (Chg.of (gbA (gbR w5 none) _) (by simp))).trans C8.out, fun y hy => ?_⟩, ⟨C8.out, by simp [keepsC, dstAt]⟩⟩
            · rcases S8.out y hy with h | h
              · exact .inl h
              · exact .inr (by omega)
          · intro f w4 hG hd
            (try simp [depsC, dstAt, kAt, bindE, List.filter_cons, bd_data, bd_chain, bd_guard, bd_phase, bd_text, bd_gc] at hd)
            (first | simp [puts, dsts, Act.put, hd] | simp [puts, dsts, Act.put])
            clear hd
            go_wp2_with fail
            exact ⟨rfl, rfl⟩
          · intro f w4 hG hI hd
            obtain ⟨A8, c8, e44, F8, o8, ch8, l8⟩ := hI
            have e44 : f 44 = .slice A8 (nc + 1) c8 := e44
            obtain ⟨q1, q2, S10, G10⟩ := HPU.out w4 A8 (nc + 1) c8 F8 _ o8 ch8 l8
            (try simp [depsC, dstAt, kAt, bindE, List.filter_cons, bd_data, bd_chain, bd_guard, bd_phase, bd_text, bd_gc] at hd)
            simp [puts, dsts, Act.put, hd, e44]
            clear hd
            go_wp2_with fail
            refine ⟨rfl, .bool false, ?_, ?_⟩
            · rw [HC.out]; exact S10
            · exact G10 w3 (Nat.le_refl _) GR.out
        intro f w8 hI hd
        simp only [puts, dsts, Act.put, List.filterMap_cons, List.filterMap_nil, List.setIfInBounds_toArray, List.set_cons_zero, List.set_cons_succ]
        obtain ⟨S8, G8⟩ := hI
        have HS8 := Lib.hid S8
        have HG8 := Lib.hid G8
        clear S8 G8 hd
        go_wp2_with fail
        go_roundw
        case rel => exact ⟨k + 1, by omega, by go_num, HS8, HG8⟩
        case measure => simp [intOf]; omega
      · have HC : Hid (conTo s m.gt zs (k + 1) = conTo s m.gt zs k) := by
          rw [conTo, HX.out, if_neg h2, List.append_nil]
          exact Lib.hid rfl
        have hx2 : (x == 2) = false := by simpa using h2
        go_wp2_with fail
        go_roundw
        case rel => exact ⟨k + 1, by omega, by go_num, by rw [HC.out]; exact S7, G7⟩
        case measure => simp [intOf]; omega
    · have hkn : k = n := by omega
      subst hkn
      have c1 := (D3.out.grow GR.out).cell 1
      simp at c1
      go_wp2_with fail
      clear c1
      have hd0 : decTo m zs 0 = [] := rfl
      rw [← hd0] at SR
      clear hd0
      obtain ⟨wo, rfl⟩ : ∃ wo : World, wo = wr := ⟨_, rfl⟩
      go_loopw [50] (fun i wr => ∃ j : Nat, j ≤ q ∧ i = .int .i64 j ∧ Hid (sofF w3.heap.size 70 (cpub ts (conTo s m.gt zs k) (decTo m zs j)) wi.heap.size wr) ∧ Hid (w3.grownBy wr none)) (fun i _ => q - (intOf i).toNat)
      case atStart => exact ⟨0, Nat.zero_le _, rfl, SR, GR⟩
      case round =>
        clear SR GR
        obtain ⟨j, hj, rfl, SR, GR⟩ := hrel
        by_cases hlt : j < q
        · have i1 : (j : Int) < (q : Int) := by omega
          have HJ1 : Hid (j + 1 ≤ q) := Lib.hid hlt
          obtain ⟨bb, ob, rfl, hbb, qb⟩ := IB.out.cell hlt
          have hout : inB (m.outs.getD j 0) 0 (m.gt.length - 1) = true := OK.out.outs _ (by rw [getI _ _ (by rw [HQ.out]; exact hlt)]; exact List.getElem_mem _)
          obtain ⟨wv, hwv, hwk⟩ : ∃ wv : Nat, m.outs.getD j 0 = (wv : Int) ∧ wv < k := by
            have hnl := HN.out
            obtain ⟨oz, hoz⟩ : ∃ z, m.outs.getD j 0 = z := ⟨_, rfl⟩
            rw [hoz] at hout ⊢
            unfold inB at hout
            simp at hout
            exact ⟨oz.toNat, by omega, by omega⟩
          rw [hwv] at qb
          obtain ⟨zk, hzk, hz6⟩ := lab_get LL.out wv
          obtain ⟨bz, oz, rfl, hbz, qz⟩ := IZ.out.cell hwk
          rw [hzk] at qz
          obtain ⟨ev, hev⟩ : ∃ e, zk &&& 1 = e := ⟨_, rfl⟩
          have HC : Hid (decTo m zs (j + 1) = decTo m zs j ++ [((ev : Nat) : Int)]) := by
            rw [decTo_succ m zs j (by rw [HQ.out]; exact hlt), hwv, Int.toNat_natCast, hzk, Int.toNat_natCast, hev]
            exact Lib.hid rfl
          have hE : bits .and .i64 (zk : Int) 1 = (ev : Int) := by rw [← hev]; exact and_nat zk 1 (by omega) (by omega)
          have HE := Lib.hid hE
          have HNC := Lib.hid (decTo_len m zs j (by rw [HQ.out]; exact hj))
          obtain ⟨A1, c1, F1, pc, -, ho1, ⟨hf1, hf2, hf3⟩, hpu⟩ := sof_row (i := 2) SR.out rfl HNC.out G4.out.size
          have T7 := T3.out.grow GR.out
          have t0 := T7.cell 0
          have t1 := T7.cell 1
          simp at t0 t1
          have PC := Lib.hid pc
          have QZ := Lib.hid (gbk (gbT G3.out GR.out) qz)
          have hz0 := G3.out.size
          have TT1 := Lib.hid t1
          have HO1 := Lib.hid ho1
          have HPU := Lib.hid hpu
          have HF1 := Lib.hid hf1
          have HF2 := Lib.hid hf2
          have hz3 := T3.out.lt
          have hg7 := GR.out.size
          have kb := gbk (gbT G3.out GR.out) qb
          have iw : (wv : Int) < (k : Int) := by omega
          clear ho1 hpu pc qz t0 t1 hf1 hf2 hzk hev qb hwv hout hE SR T7
          go_wp2_with fail
          clear kb
          have hE := HE.out
          refine region_chain [.rd (.pointer (some ⟨wi.heap.size, 2, none⟩)), .rd (.slice A1 j c1), .rd (.pointer (some ⟨w0.heap.size + 1, 1, none⟩)), .rd (.slice (some ⟨bz, oz, none⟩) k cz), .rd (.int .i64 wv), .rd (.pointer (some ⟨bz, oz + wv, none⟩)), .rd (.int .i64 zk), .rd (.int .i64 ev), .ch, .ch, .rd (.pointer (some ⟨wi.heap.size, 2, none⟩)), .ch] (fun y => y ∈ F1)
            [⟨[], fun _ w' => w' = wr.drew⟩,
             ⟨[62], fun l w' => ∃ w5, w' = w5.alloc (.cells #[.int .i64 ev] 3) ∧ l.getD 0 undef = .slice (some ⟨w5.heap.size, 0, none⟩) 1 1 ∧ wr.drew.grownBy w5 none⟩,
             ⟨[63], fun l w' => ∃ A8 c8, l.getD 0 undef = .slice A8 (j + 1) c8 ∧ ∃ F8, (cints (decTo m zs j ++ [(ev : Int)])).own w' F8 (.slice A8 (j + 1) c8) ∧ Chg (fun y => y ∈ F1) wr w' ∧ ∀ y ∈ F8, y ∈ F1 ∨ wr.heap.size ≤ y⟩,
             ⟨[], fun _ w' => sofF w3.heap.size 70 (cpub ts (conTo s m.gt zs k) (decTo m zs (j + 1))) wi.heap.size w' ∧ w3.grownBy w' none⟩]
            (by kernel_rfl) (by kernel_rfl) (by kernel_rfl) 3 (by kernel_rfl) (by simp only [flOk, and_true]) rfl rfl ?_ ?_
          · simp only [hopsK, hopK, Kd.next, and_true]
            refine ⟨?_, ?_, ?_, ?_, ?_, ?_, ?_, ?_, ?_, ?_, ?_, ?_⟩
            · intro f w4 hG hd
              (try simp [depsC, dstAt, kAt, bindE, List.filter_cons, bd_data, bd_chain, bd_guard, bd_phase, bd_text, bd_gc] at hd)
              (first | simp [puts, dsts, Act.put, hd] | simp [puts, dsts, Act.put])
              clear hd
              go_wp2_with fail
              exact ⟨rfl, rfl⟩
            · intro f w4 hG hd
              have b5 := hG.cell (gbk (gbD (gbR wr none)) PC.out) (by simp; omega) (fun e => by exact HF2.out e)
              (try simp [depsC, dstAt, kAt, bindE, List.filter_cons, bd_data, bd_chain, bd_guard, bd_phase, bd_text, bd_gc] at hd)
              (first | simp [puts, dsts, Act.put, hd] | simp [puts, dsts, Act.put])
              clear hd
              go_wp2_with fail
              exact ⟨rfl, rfl⟩
            · intro f w4 hG hd
              (try simp [depsC, dstAt, kAt, bindE, List.filter_cons, bd_data, bd_chain, bd_guard, bd_phase, bd_text, bd_gc] at hd)
              (first | simp [puts, dsts, Act.put, hd] | simp [puts, dsts, Act.put])
              clear hd
              go_wp2_with fail
              exact ⟨rfl, rfl⟩
            · intro f w4 hG hd
              have b5 := hG.cell (gbk (gbD (gbR wr none)) TT1.out) (by simp; omega) (fun e => by have := (HF1.out _ e).1; omega)
              (try simp [depsC, dstAt, kAt, bindE, List.filter_cons, bd_data, bd_chain, bd_guard, bd_phase, bd_text, bd_gc] at hd)
              (first | simp [puts, dsts, Act.put, hd] | simp [puts, dsts, Act.put])
              clear hd
              go_wp2_with fail
              exact ⟨rfl, rfl⟩
            · intro f w4 hG hd
              (try simp [depsC, dstAt, kAt, bindE, List.filter_cons, bd_data, bd_chain, bd_guard, bd_phase, bd_text, bd_gc] at hd)
              (first | simp [puts, dsts, Act.put, hd] | simp [puts, dsts, Act.put])
              clear hd
              go_wp2_with fail
              exact ⟨rfl, rfl⟩
            · intro f w4 hG hd
              (try simp [depsC, dstAt, kAt, bindE, List.filter_cons, bd_data, bd_chain, bd_guard, bd_phase, bd_text, bd_gc] at hd)
              (first | simp [puts, dsts, Act.put, hd] | simp [puts, dsts, Act.put])
              clear hd
              go_wp2_with fail
              exact ⟨rfl, rfl⟩
            · intro f w4 hG hd
              have b5 := hG.cell (gbk (gbD (gbR wr none)) QZ.out) (by simp; omega) (fun e => by have := (HF1.out _ e).1; omega)
              (try simp [depsC, dstAt, kAt, bindE, List.filter_cons, bd_data, bd_chain, bd_guard, bd_phase, bd_text, bd_gc] at hd)
              (first | simp [puts, dsts, Act.put, hd] | simp [puts, dsts, Act.put])
              clear hd
              go_wp2_with fail
              exact ⟨rfl, rfl⟩
            · intro f w4 hG hd
              (try simp [depsC, dstAt, kAt, bindE, List.filter_cons, bd_data, bd_chain, bd_guard, bd_phase, bd_text, bd_gc] at hd)
              (first | simp [puts, dsts, Act.put, hd] | simp [puts, dsts, Act.put])
              clear hd
              go_wp2_with fail
              exact ⟨rfl, rfl⟩
            · intro f w4 hG hI hd
              have hI : w4 = wr.drew := hI
              subst hI
              (try simp [depsC, dstAt, kAt, bindE, List.filter_cons, bd_data, bd_chain, bd_guard, bd_phase, bd_text, bd_gc] at hd)
              (first | simp [puts, dsts, Act.put, hd] | simp [puts, dsts, Act.put])
              clear hd
              go_wp2_with fail
              exact ⟨_, rfl, ⟨wr.drew, rfl, rfl, gbR _ _⟩, ⟨Chg.of (gbA (gbR _ none) _) (by simp), by simp [keepsC, dstAt]⟩⟩
            · intro f w4 hG hI hd
              obtain ⟨w5, rfl, e43, h1⟩ := hI
              have e43 : f 62 = .slice (some ⟨w5.heap.size, 0, none⟩) 1 1 := e43
              (try simp [depsC, dstAt, kAt, bindE, List.filter_cons, bd_data, bd_chain, bd_guard, bd_phase, bd_text, bd_gc] at hd)
              simp [puts, dsts, Act.put, hd, e43]
              have gg5 : wr.grownBy w5 none := gbT (gbD (gbR _ _)) h1
              refine wp_pushG w5 w5.heap.size rfl rfl (.tmp 55) (.tmp 62) rfl ev A1 j c1 (decTo m zs j) F1 (own_growK _ HO1.out gg5) HNC.out rfl rfl (by omega) ?_
              intro A8 c8 w9 F8 O8 C8 S8
              have hs5 := gg5.size
              go_wp2_with fail
              refine ⟨_, rfl, ⟨A8, c8, rfl, F8, O8.out, ((Chg.of gg5 (by simp)).trans (Chg.of (gbA (gbR w5 none) _) (by simp))).trans C8.out, fun y hy => ?_⟩, ⟨C8.out, by simp [keepsC, dstAt]⟩⟩
              · rcases S8.out y hy with h | h
                · exact .inl h
                · exact .inr (by omega)
            · intro f w4 hG hd
              (try simp [depsC, dstAt, kAt, bindE, List.filter_cons, bd_data, bd_chain, bd_guard, bd_phase, bd_text, bd_gc] at hd)
              (first | simp [puts, dsts, Act.put, hd] | simp [puts, dsts, Act.put])
              clear hd
              go_wp2_with fail
              exact ⟨rfl, rfl⟩
            · intro f w4 hG hI hd
              obtain ⟨A8, c8, e44, F8, o8, ch8, l8⟩ := hI
              have e44 : f 63 = .slice A8 (j + 1) c8 := e44
              obtain ⟨q1, q2, S10, G10⟩ := HPU.out w4 A8 (j + 1) c8 F8 _ o8 ch8 l8
              (try simp [depsC, dstAt, kAt, bindE, List.filter_cons, bd_data, bd_chain, bd_guard, bd_phase, bd_text, bd_gc] at hd)
              simp [puts, dsts, Act.put, hd, e44]
              clear hd
              go_wp2_with fail
              refine ⟨rfl, .bool false, ?_, ?_⟩
              · rw [HC.out]; exact S10
              · exact G10 w3 (Nat.le_refl _) GR.out
          intro f w8 hI hd
          simp only [puts, dsts, Act.put, List.filterMap_cons, List.filterMap_nil, List.setIfInBounds_toArray, List.set_cons_zero, List.set_cons_succ]
          obtain ⟨S8, G8⟩ := hI
          have HS8 := Lib.hid S8
          have HG8 := Lib.hid G8
          clear S8 G8 hd
          go_wp2_with fail
          go_roundw
          case rel => exact ⟨j + 1, HJ1.out, by go_num, HS8, HG8⟩
          case measure => have := HJ1.out; simp [intOf]; omega
        · have hjq : j = q := by omega
          subst hjq
          obtain ⟨E1, n0, e0, A1, n1, c1, B1, n2, c2, F1, l0, l1, l2, ho, hF1⟩ := pub_load SR.out
          have R9 := R3.out.grow GR.out
          have z3 := R3.out.lt
          have RS := SOF.store R9 (us := [.slice E1 n0 e0, .slice A1 n1 c1, .slice B1 n2 c2]) rfl ho (fun hx => by have := hF1 _ hx; omega)
          simp only [setCells, Nat.zero_add, Nat.reduceAdd] at RS
          have r0 := R9.cell 0
          have r1 := R9.cell 1
          have r2 := R9.cell 2
          have f0 := R9.frozen 0
          have f1 := R9.frozen 1
          have f2 := R9.frozen 2
          simp at r0 r1 r2 f0 f1 f2
          have GE : Hid (w0.grownBy (setCells wr (w0.heap.size + 1 + 1) 0 [.slice E1 n0 e0, .slice A1 n1 c1, .slice B1 n2 c2]) none) := Lib.hid (gb_chg (gbT G3.out GR.out) (chg_setCells _ _ _ _) (by omega))
          simp only [setCells, Nat.zero_add, Nat.reduceAdd] at GE
          have HRS := Lib.hid RS
          clear RS
          go_wp2_with fail
          obtain ⟨vs, B9, o9⟩ := HRS.out.agg
          have B := ((R9.set_ 0 (.slice E1 n0 e0)).set_ 1 (.slice A1 n1 c1)).set_ 2 (.slice B1 n2 c2)
          have e : some (Obj.cells vs.toArray 70 (0, 0)) = some (Obj.cells #[.slice E1 n0 e0, .slice A1 n1 c1, .slice B1 n2 c2] 70 (0, 0)) := B9.symm.trans B
          injection e with e
          injection e with e _
          rw [e] at o9 B9
          refine ret_ct Try.results77 (by rfl) stPublic (cs := #[.slice E1 n0 e0, .slice A1 n1 c1, .slice B1 n2 c2]) B9 (by rfl) (by rfl) ?_
          exact ⟨_, rfl, ⟨F1, o9, fun x hx => by have := hF1 _ hx; omega⟩, GE.out⟩
end Go.Proofs.Ythdfkiaoahpjpaa
