/-
  PublicOf of the reference.
-/
import Derived.Test.YthdfkiaoahpjpaaMgFnExactCheckCopies31
namespace Go.Proofs.Ythdfkiaoahpjpaa
open Go.RowKit
set_option linter.unusedVariables false
set_option linter.unusedSimpArgs false
set_option maxHeartbeats 1600000 in
set_option maxRecDepth 100000 in
theorem specPublicOf_yes (m : CM) (s : Nat) (v u : Value) (w0 : World) (h : AggR w0 (ccircuit m) v) (ok : COk m) (hql : m.outs.length ≤ 1048576) (hg : AggR w0 (cgarb (dltN s) (garZ s m.gt m.gt.length) (garT s m.gt m.gt.length)) u) :
    Calls Try.prog 101 #[v, u] w0 fun e w' => ∃ V, e = .returned (.tuple #[V, .bool true]) ∧ aggF w0.heap.size (cpub (garT s m.gt m.gt.length) (conTo s m.gt (garZ s m.gt m.gt.length) m.gt.length) (decTo m (garZ s m.gt m.gt.length) m.outs.length)) V w' ∧ w0.grownBy w' none := by
  have HV := Lib.hid h
  have HG := Lib.hid hg
  have OKG := fun (v u : Value) (w : World) (h : AggR w (ccircuit m) v) (hg : AggR w (cgarb (dltN s) (garZ s m.gt m.gt.length) (garT s m.gt m.gt.length)) u) => specGarbledOk_yes m s v u w h ok hg
  obtain ⟨u0, u1, rfl, h1, h2⟩ := ccircuit_open h
  obtain ⟨A, cA, rfl, hc, hm, hF⟩ := plst_rd (s := 3) (fun _ => rfl) (by omega) h1
  obtain ⟨B, cB, rfl, _, _, hB⟩ := cints_rd h2
  obtain ⟨Z, cz, T, ct, rfl, iz, it⟩ := gar_open hg
  have hn6 : m.gt.length ≤ 6000 := ok.few
  have hgl : gts m.gt 4 m.gt.length ≤ m.gt.length := gts_le m.gt 4 m.gt.length
  have lt := garT_len s m.gt m.gt.length (Nat.le_refl _)
  have hz := garZ_len s m.gt m.gt.length
  have LL := Lib.hid (garZ_lab s m.gt m.gt.length)
  obtain ⟨zs, hzs⟩ : ∃ x, garZ s m.gt m.gt.length = x := ⟨_, rfl⟩
  obtain ⟨ts, hts⟩ : ∃ x, garT s m.gt m.gt.length = x := ⟨_, rfl⟩
  rw [hzs] at iz hz LL OKG HG ⊢
  rw [hts] at it lt OKG HG ⊢
  rw [hz] at iz HG ⊢
  have hd6 := dltN_lt s
  obtain ⟨dd, hdd⟩ : ∃ dd, dltN s = dd := ⟨_, rfl⟩
  have HDD := Lib.hid hdd
  rw [hdd] at hd6 OKG HG ⊢
  obtain ⟨r, hr⟩ : ∃ r, ts.length = r := ⟨_, rfl⟩
  rw [hr] at it lt HG ⊢
  have hr6 : r ≤ 12000 := by omega
  have HOKG := Lib.hid OKG
  have OK := Lib.hid ok
  obtain ⟨q, hq⟩ : ∃ q, m.outs.length = q := ⟨_, rfl⟩
  rw [hq] at HV hB hql ⊢
  obtain ⟨n, hn⟩ : ∃ n, m.gt.length = n := ⟨_, rfl⟩
  rw [hn] at HV HG hc hF hn6 iz ⊢
  have HN := Lib.hid hn
  have HQ := Lib.hid hq
  have HBL : Hid (0 < n → ∀ b o, A = some ⟨b, o, none⟩ → b < w0.heap.size) := Lib.hid (fun h0 b o e => by obtain ⟨b', o', _, _, _, e', hb', _⟩ := gates_at hF h0; rw [e] at e'; injection e' with e'; injection e' with e1; rw [e1]; exact hb')
  have IZ := Lib.hid iz
  have IT := Lib.hid it
  have IB := Lib.hid hB
  have HF := Lib.hid hF
  clear OKG h h1 h2 hF hB ok hn hm hdd hg iz it hz lt hzs hts hr hq hgl
  obtain ⟨w1, hw1⟩ : ∃ x : World, ((w0.alloc (.cells #[.slice A n cA, .slice B q cB] 28)).alloc (.cells #[.int .i64 dd, .slice Z n cz, .slice T r ct] 100)).alloc (.cells #[.slice none 0 0, .slice none 0 0, .slice none 0 0] 70) = x := ⟨_, rfl⟩
  have G1 : Hid (w0.grownBy w1 none) := by rw [← hw1]; exact Lib.hid (gbA (gbA (gbA (gbR _ _) _) _) _)
  have D1 : Hid (Blk w1 w0.heap.size 28 #[.slice A n cA, .slice B q cB]) := by rw [← hw1]; exact Lib.hid ((Blk.new w0 _ _).grow (gbA (gbA (gbR _ _) _) _))
  have T1 : Hid (Blk w1 (w0.heap.size + 1) 100 #[.int .i64 dd, .slice Z n cz, .slice T r ct]) := by rw [← hw1]; exact Lib.hid ((Blk.new' _ _ _ _ (by simp)).grow (gbA (gbR _ _) _))
  have R1 : Hid (Blk w1 (w0.heap.size + 1 + 1) 70 #[.slice none 0 0, .slice none 0 0, .slice none 0 0]) := by rw [← hw1]; exact Lib.hid (Blk.new' _ _ _ _ (by simp))
  have c0 := D1.out.cell 0
  have c1 := D1.out.cell 1
  have t0 := T1.out.cell 0
  have t1 := T1.out.cell 1
  have t2 := T1.out.cell 2
  simp at c0 c1 t0 t1 t2
  go_enter Try.func101, Try.ntmps101
  go_wp2_with fail
  clear c0 c1 t0 t1 t2 hw1
  refine (HOKG.out _ _ w1 (HV.out.grow G1.out) (HG.out.grow G1.out)).mono ?_
  rintro e w3 ⟨rfl, g3⟩
  have G3 := Lib.hid (gbT G1.out g3)
  have D3 := Lib.hid (D1.out.grow g3)
  have T3 := Lib.hid (T1.out.grow g3)
  have R3 := Lib.hid (R1.out.grow g3)
  clear D1 T1 R1 G1 g3 HOKG
  obtain ⟨wl, hwl⟩ : ∃ x : World, w3.alloc (.cells #[] 3) = x := ⟨_, rfl⟩
  have GL : Hid (w3.grownBy wl none) := by rw [← hwl]; exact Lib.hid (gbA (gbR _ _) _)
  have OL : Hid (wl.ownsRow 0 3 1 (.slice (some ⟨w3.heap.size, 0, none⟩) 0 0) 0 []) := by rw [← hwl]; exact Lib.hid (World.ownsRow_made w3 #[] 0 (Nat.zero_le _) (by simp) rfl)
  have t2 := (T3.out.grow GL.out).cell 2
  simp at t2
  go_wp2_with (at_builtin; refine wp_appendF wl el_int rfl (.tmp 14) (.tmp 16) rfl w3.heap.size OL.out rfl T r ct (ts.map (Value.int .i64)) rfl (IT.out.grow (gbT G3.out GL.out)) (by simp [Value.oneCell']) (by unfold maxLen; omega) (by omega) ?_; intro v4 wi o4 g4 n4; have G4 := Lib.hid (gbT GL.out g4); obtain ⟨A4, c4, hv4, _⟩ := own_form o4; have hgl := GL.out.size; have O4 := Lib.hid (ownF.ints (lo := w3.heap.size) (own_rebase o4 (fun g hg => (n4 g hg).elim (fun h => Nat.le_of_eq h.symm) (fun h => Nat.le_trans hgl h.1)))); rw [hv4] at O4 ⊢; clear o4 g4 n4 hv4)
  have S5 := Lib.hid (pub_new 70 O4.out G4.out.size)
  have G5 := Lib.hid (gbT G4.out (gbA (gbR wi none) (.cells #[.slice A4 r c4, .slice none 0 0, .slice none 0 0] 70)))
  clear hwl
  go_loopw [7] (fun i wr => ∃ k : Nat, k ≤ n ∧ i = .int .i64 k ∧ Hid (sofF w3.heap.size 70 (cpub ts (conTo s m.gt zs k) []) wi.heap.size wr) ∧ Hid (w3.grownBy wr none)) (fun i _ => n - (intOf i).toNat)
  case atStart => exact ⟨0, Nat.zero_le _, rfl, S5, G5⟩
  case round =>
    clear S5 G5
    obtain ⟨k, hk, rfl, SR, GR⟩ := hrel
    have c0 := (D3.out.grow GR.out).cell 0
    have c1 := (D3.out.grow GR.out).cell 1
    simp at c0 c1
    by_cases hlt : k < n
    · have i1 : (k : Int) < (n : Int) := by omega
      obtain ⟨b, o, x, y, z, rfl, hbl, hx, q0, q1, q2⟩ := gates_at (FL.grow HF.out (gbT G3.out GR.out)) hlt
      have hX : m.gt.getD k (0, 0, 0) = (x, y, z) := by simp [List.getD_eq_getElem?_getD, hx]
      have hgb : gateB k (x, y, z) = true := by have := OK.out.gates k (by rw [HN.out]; exact hlt); unfold gtAt at this; rwa [hX] at this
      have HX := Lib.hid hX
      have Q1 := Lib.hid q1
      clear hx hX q1 q2
      by_cases h2 : x = 2
      · subst h2
        have HC : Hid (conTo s m.gt zs (k + 1) = conTo s m.gt zs k ++ [((labN (zs.getD k 0).toNat dd y.toNat : Nat) : Int)]) := by
          rw [conTo, HX.out, if_pos rfl, HDD.out]
          exact Lib.hid rfl
        obtain ⟨a, rfl, ha1⟩ : ∃ a : Nat, y = (a : Int) ∧ a ≤ 1 := by
          rcases gateB_kind hgb with ⟨h, _⟩ | ⟨_, hy⟩ | ⟨h, _⟩ | ⟨h, _⟩ | ⟨h, _⟩
          · omega
          · have h1 := hy.1; have h2 := hy.2; exact ⟨y.toNat, by omega, by omega⟩
          · omega
          · omega
          · omega
        obtain ⟨zk, hzk, hz6⟩ := lab_get LL.out k
        rw [hzk, Int.toNat_natCast, Int.toNat_natCast] at HC
        obtain ⟨lb, hlb⟩ : ∃ q, labN zk dd a = q := ⟨_, rfl⟩
        rw [hlb] at HC
        have HLB := Lib.hid hlb
        obtain ⟨nc, hnc⟩ : ∃ q, (conTo s m.gt zs k).length = q := ⟨_, rfl⟩
        have hnc6 : nc ≤ k := by rw [← hnc]; exact conTo_le s m.gt zs k
        obtain ⟨A1, c2, F1, pc, -, ho1, ⟨hf1, hf2, hf3⟩, hpu⟩ := sof_row (i := 1) SR.out rfl hnc G4.out.size
        obtain ⟨bz, oz, rfl, hbz, qz⟩ := IZ.out.cell hlt
        rw [hzk] at qz
        have T7 := T3.out.grow GR.out
        have t0 := T7.cell 0
        have t1 := T7.cell 1
        simp at t0 t1
        have PC := Lib.hid pc
        have QZ := Lib.hid (gbk (gbT G3.out GR.out) qz)
        have hz0 := G3.out.size
        have TT0 := Lib.hid t0
        have TT1 := Lib.hid t1
        have C0 := Lib.hid c0
        have HO1 := Lib.hid ho1
        have HPU := Lib.hid hpu
        have HF1 := Lib.hid hf1
        have HF2 := Lib.hid hf2
        have HNC := Lib.hid hnc
        have hz3 := T3.out.lt
        have hd3 := D3.out.lt
        have hg7 := GR.out.size
        have hbl0 : b < w0.heap.size := HBL.out (by omega) b o rfl
        clear ho1 hpu pc qz t0 t1 hnc hlb hf1 hf2 hzk SR T7
        go_wp2_with fail
        clear c0 c1 q0
        refine region_chain [.rd (.pointer (some ⟨wi.heap.size, 1, none⟩)), .rd (.slice A1 nc c2), .rd (.pointer (some ⟨w0.heap.size + 1, 1, none⟩)), .rd (.slice (some ⟨bz, oz, none⟩) n cz), .rd (.int .i64 k), .rd (.pointer (some ⟨bz, oz + k, none⟩)), .rd (.int .i64 zk), .rd (.pointer (some ⟨w0.heap.size + 1, 0, none⟩)), .rd (.int .i64 dd), .rd (.pointer (some ⟨w0.heap.size, 0, none⟩)), .rd (.slice (some ⟨b, o, none⟩) n cA), .rd (.int .i64 k), .rd (.pointer (some ⟨b, o + k * 3, none⟩)), .rd (.pointer (some ⟨b, o + k * 3 + 1, none⟩)), .rd (.int .i64 a), .ch, .ch, .ch, .rd (.pointer (some ⟨wi.heap.size, 1, none⟩)), .ch] (fun y => y ∈ F1)
          [⟨[], fun _ w' => w' = wr.drew⟩,
           ⟨[48], fun l w' => wr.drew.grownBy w' none ∧ l.getD 0 undef = .int .i64 lb⟩,
           ⟨[49], fun l w' => ∃ w5, w' = w5.alloc (.cells #[.int .i64 lb] 3) ∧ l.getD 0 undef = .slice (some ⟨w5.heap.size, 0, none⟩) 1 1 ∧ wr.drew.grownBy w5 none⟩,
           ⟨[50], fun l w' => ∃ A8 c8, l.getD 0 undef = .slice A8 (nc + 1) c8 ∧ ∃ F8, (cints (conTo s m.gt zs k ++ [(lb : Int)])).own w' F8 (.slice A8 (nc + 1) c8) ∧ Chg (fun y => y ∈ F1) wr w' ∧ ∀ y ∈ F8, y ∈ F1 ∨ wr.heap.size ≤ y⟩,
           ⟨[], fun _ w' => sofF w3.heap.size 70 (cpub ts (conTo s m.gt zs (k + 1)) []) wi.heap.size w' ∧ w3.grownBy w' none⟩]
          (by kernel_rfl) (by kernel_rfl) (by kernel_rfl) 4 (by kernel_rfl) (by simp only [flOk, and_true]) rfl rfl ?_ ?_
        · simp only [hopsK, hopK, Kd.next, and_true]
          refine ⟨?_, ?_, ?_, ?_, ?_, ?_, ?_, ?_, ?_, ?_, ?_, ?_, ?_, ?_, ?_, ?_, ?_, ?_, ?_, ?_⟩
          · intro f w4 hG hd
            (try simp [depsC, dstAt, kAt, bindE, List.filter_cons, bd_data, bd_chain, bd_guard, bd_phase, bd_text, bd_gc] at hd)
            (first | simp [puts, dsts, Act.put, hd] | simp [puts, dsts, Act.put])
            clear hd
            go_wp2_with fail
            exact ⟨rfl, rfl⟩
          · intro f w4 hG hd
            have b5 := hG.cell (gbk (gbD (gbR wr none)) PC.out) (by simp; omega) (fun e => by exact HF2.out e)
            (try simp [depsC, dstAt, kAt, bindE, List.filter_cons, bd_data, bd_chain, bd_guard, bd_phase, bd_text, bd_gc] at hd)
            (first | simp [puts, dsts, Act.put, hd] | simp [puts, dsts, Act.put])
            clear hd
            go_wp2_with fail
            exact ⟨rfl, rfl⟩
          · intro f w4 hG hd
            (try simp [depsC, dstAt, kAt, bindE, List.filter_cons, bd_data, bd_chain, bd_guard, bd_phase, bd_text, bd_gc] at hd)
            (first | simp [puts, dsts, Act.put, hd] | simp [puts, dsts, Act.put])
            clear hd
            go_wp2_with fail
            exact ⟨rfl, rfl⟩
          · intro f w4 hG hd
            have b5 := hG.cell (gbk (gbD (gbR wr none)) TT1.out) (by simp; omega) (fun e => by have := (HF1.out _ e).1; omega)
            (try simp [depsC, dstAt, kAt, bindE, List.filter_cons, bd_data, bd_chain, bd_guard, bd_phase, bd_text, bd_gc] at hd)
            (first | simp [puts, dsts, Act.put, hd] | simp [puts, dsts, Act.put])
            clear hd
            go_wp2_with fail
            exact ⟨rfl, rfl⟩
          · intro f w4 hG hd
            (try simp [depsC, dstAt, kAt, bindE, List.filter_cons, bd_data, bd_chain, bd_guard, bd_phase, bd_text, bd_gc] at hd)
            (first | simp [puts, dsts, Act.put, hd] | simp [puts, dsts, Act.put])
            clear hd
            go_wp2_with fail
            exact ⟨rfl, rfl⟩
          · intro f w4 hG hd
            (try simp [depsC, dstAt, kAt, bindE, List.filter_cons, bd_data, bd_chain, bd_guard, bd_phase, bd_text, bd_gc] at hd)
            (first | simp [puts, dsts, Act.put, hd] | simp [puts, dsts, Act.put])
            clear hd
            go_wp2_with fail
            exact ⟨rfl, rfl⟩
          · intro f w4 hG hd
            have b5 := hG.cell (gbk (gbD (gbR wr none)) QZ.out) (by simp; omega) (fun e => by have := (HF1.out _ e).1; omega)
            (try simp [depsC, dstAt, kAt, bindE, List.filter_cons, bd_data, bd_chain, bd_guard, bd_phase, bd_text, bd_gc] at hd)
            (first | simp [puts, dsts, Act.put, hd] | simp [puts, dsts, Act.put])
            clear hd
            go_wp2_with fail
            exact ⟨rfl, rfl⟩
          · intro f w4 hG hd
            (try simp [depsC, dstAt, kAt, bindE, List.filter_cons, bd_data, bd_chain, bd_guard, bd_phase, bd_text, bd_gc] at hd)
            (first | simp [puts, dsts, Act.put, hd] | simp [puts, dsts, Act.put])
            clear hd
            go_wp2_with fail
            exact ⟨rfl, rfl⟩
          · intro f w4 hG hd
            have b5 := hG.cell (gbk (gbD (gbR wr none)) TT0.out) (by simp; omega) (fun e => by have := (HF1.out _ e).1; omega)
            (try simp [depsC, dstAt, kAt, bindE, List.filter_cons, bd_data, bd_chain, bd_guard, bd_phase, bd_text, bd_gc] at hd)
            (first | simp [puts, dsts, Act.put, hd] | simp [puts, dsts, Act.put])
            clear hd
            go_wp2_with fail
            exact ⟨rfl, rfl⟩
          · intro f w4 hG hd
            (try simp [depsC, dstAt, kAt, bindE, List.filter_cons, bd_data, bd_chain, bd_guard, bd_phase, bd_text, bd_gc] at hd)
            (first | simp [puts, dsts, Act.put, hd] | simp [puts, dsts, Act.put])
            clear hd
            go_wp2_with fail
            exact ⟨rfl, rfl⟩
          · intro f w4 hG hd
            have b5 := hG.cell (gbk (gbD (gbR wr none)) C0.out) (by simp; omega) (fun e => by have := (HF1.out _ e).1; omega)
            (try simp [depsC, dstAt, kAt, bindE, List.filter_cons, bd_data, bd_chain, bd_guard, bd_phase, bd_text, bd_gc] at hd)
            (first | simp [puts, dsts, Act.put, hd] | simp [puts, dsts, Act.put])
            clear hd
            go_wp2_with fail
            exact ⟨rfl, rfl⟩
          · intro f w4 hG hd
            (try simp [depsC, dstAt, kAt, bindE, List.filter_cons, bd_data, bd_chain, bd_guard, bd_phase, bd_text, bd_gc] at hd)
            (first | simp [puts, dsts, Act.put, hd] | simp [puts, dsts, Act.put])
            clear hd
            go_wp2_with fail
            exact ⟨rfl, rfl⟩
          · intro f w4 hG hd
            (try simp [depsC, dstAt, kAt, bindE, List.filter_cons, bd_data, bd_chain, bd_guard, bd_phase, bd_text, bd_gc] at hd)
            (first | simp [puts, dsts, Act.put, hd] | simp [puts, dsts, Act.put])
            clear hd
            go_wp2_with fail
            exact ⟨rfl, rfl⟩
          · intro f w4 hG hd
            (try simp [depsC, dstAt, kAt, bindE, List.filter_cons, bd_data, bd_chain, bd_guard, bd_phase, bd_text, bd_gc] at hd)
            (first | simp [puts, dsts, Act.put, hd] | simp [puts, dsts, Act.put])
            clear hd
            go_wp2_with fail
            exact ⟨rfl, rfl⟩
          · intro f w4 hG hd
            have b5 := hG.cell (gbk (gbD (gbR wr none)) Q1.out) (by simp; omega) (fun e => by have := (HF1.out _ e).1; omega)
            (try simp [depsC, dstAt, kAt, bindE, List.filter_cons, bd_data, bd_chain, bd_guard, bd_phase, bd_text, bd_gc] at hd)
            (first | simp [puts, dsts, Act.put, hd] | simp [puts, dsts, Act.put])
            clear hd
            go_wp2_with fail
            exact ⟨rfl, rfl⟩
          · intro f w4 hG hI hd
            have hI : w4 = wr.drew := hI
            subst hI
            (try simp [depsC, dstAt, kAt, bindE, List.filter_cons, bd_data, bd_chain, bd_guard, bd_phase, bd_text, bd_gc] at hd)
            (first | simp [puts, dsts, Act.put, hd] | simp [puts, dsts, Act.put])
            clear hd
            go_wp2_with fail
            refine (specLabelFor_yes zk dd a wr.drew hz6 hd6 ha1).mono ?_
            rintro e' w6 ⟨rfl, hw⟩
            rw [HLB.out]
            have HW := Lib.hid hw
            clear hw
            go_wp2_with fail
            exact ⟨_, rfl, ⟨HW.out, rfl⟩, ⟨Chg.of HW.out (by simp), by simp [keepsC, dstAt]⟩⟩
          · intro f w4 hG hI hd
            obtain ⟨h1, h2⟩ := hI
            have h2 : f 48 = .int .i64 lb := h2
            clear hd
            simp [puts, dsts, Act.put, h2]
            go_wp2_with fail
            exact ⟨_, rfl, ⟨w4, rfl, rfl, h1⟩, ⟨Chg.of (gbA (gbR _ none) _) (by simp), by simp [keepsC, dstAt]⟩⟩
          · intro f w4 hG hI hd
            obtain ⟨w5, rfl, e43, h1⟩ := hI
            have e43 : f 49 = .slice (some ⟨w5.heap.size, 0, none⟩) 1 1 := e43
            (try simp [depsC, dstAt, kAt, bindE, List.filter_cons, bd_data, bd_chain, bd_guard, bd_phase, bd_text, bd_gc] at hd)
            simp [puts, dsts, Act.put, hd, e43]
            have gg5 : wr.grownBy w5 none := gbT (gbD (gbR _ _)) h1
            refine wp_pushG w5 w5.heap.size rfl rfl (.tmp 34) (.tmp 49) rfl lb A1 nc c2 (conTo s m.gt zs k) F1 (own_growK _ HO1.out gg5) HNC.out rfl rfl (by omega) ?_
            intro A8 c8 w9 F8 O8 C8 S8
            have hs5 := gg5.size
            go_wp2_with fail
            refine ⟨_, rfl, ⟨A8, c8, rfl, F8, O8.out, ((Chg.of gg5 (by simp)).trans (Chg.of (gbA (gbR w5 none) _) (by simp))).trans C8.out, fun y hy => ?_⟩, ⟨C8.out, by simp [keepsC, dstAt]⟩⟩
            · rcases S8.out y hy with h | h
              · exact .inl h
              · exact .inr (by omega)
          · intro f w4 hG hd
            (try simp [depsC, dstAt, kAt, bindE, List.filter_cons, bd_data, bd_chain, bd_guard, bd_phase, bd_text, bd_gc] at hd)
            (first | simp [puts, dsts, Act.put, hd] | simp [puts, dsts, Act.put])
            clear hd
            go_wp2_with fail
            exact ⟨rfl, rfl⟩
          · intro f w4 hG hI hd
            obtain ⟨A8, c8, e44, F8, o8, ch8, l8⟩ := hI
            have e44 : f 50 = .slice A8 (nc + 1) c8 := e44
            obtain ⟨q1, q2, S10, G10⟩ := HPU.out w4 A8 (nc + 1) c8 F8 _ o8 ch8 l8
            (try simp [depsC, dstAt, kAt, bindE, List.filter_cons, bd_data, bd_chain, bd_guard, bd_phase, bd_text, bd_gc] at hd)
            simp [puts, dsts, Act.put, hd, e44]
            clear hd
            go_wp2_with fail
            refine ⟨rfl, .bool false, ?_, ?_⟩
            · rw [HC.out]; exact S10
            · exact G10 w3 (Nat.le_refl _) GR.out
        intro f w8 hI hd
        simp only [puts, dsts, Act.put, List.filterMap_cons, List.filterMap_nil, List.setIfInBounds_toArray, List.set_cons_zero, List.set_cons_succ]
        obtain ⟨S8, G8⟩ := hI
        have HS8 := Lib.hid S8
        have HG8 := Lib.hid G8
        clear S8 G8 hd
        go_wp2_with fail
        go_roundw
        case rel => exact ⟨k + 1, by omega, by go_num, HS8, HG8⟩
        case measure => simp [intOf]; omega
      · have HC : Hid (conTo s m.gt zs (k + 1) = conTo s m.gt zs k) := by
          rw [conTo, HX.out, if_neg h2, List.append_nil]
          exact Lib.hid rfl
        have hx2 : (x == 2) = false := by simpa using h2
        go_wp2_with fail
        go_roundw
        case rel => exact ⟨k + 1, by omega, by go_num, by rw [HC.out]; exact SR, GR⟩
        case measure => simp [intOf]; omega
    · have hkn : k = n := by omega
      subst hkn
      go_wp2_with fail
      clear c0 c1
      have hd0 : decTo m zs 0 = [] := rfl
      rw [← hd0] at SR
      clear hd0
      obtain ⟨wo, rfl⟩ : ∃ wo : World, wo = wr := ⟨_, rfl⟩
      go_loopw [8] (fun i wr => ∃ j : Nat, j ≤ q ∧ i = .int .i64 j ∧ Hid (sofF w3.heap.size 70 (cpub ts (conTo s m.gt zs k) (decTo m zs j)) wi.heap.size wr) ∧ Hid (w3.grownBy wr none)) (fun i _ => q - (intOf i).toNat)
      case atStart => exact ⟨0, Nat.zero_le _, rfl, SR, GR⟩
      case round =>
        clear SR GR
        obtain ⟨j, hj, rfl, SR, GR⟩ := hrel
        have c0 := (D3.out.grow GR.out).cell 0
        have c1 := (D3.out.grow GR.out).cell 1
        simp at c0 c1
        by_cases hlt : j < q
        · have i1 : (j : Int) < (q : Int) := by omega
          have HJ1 : Hid (j + 1 ≤ q) := Lib.hid hlt
          obtain ⟨bb, ob, rfl, hbb, qb⟩ := IB.out.cell hlt
          have hout : inB (m.outs.getD j 0) 0 (m.gt.length - 1) = true := OK.out.outs _ (by rw [getI _ _ (by rw [HQ.out]; exact hlt)]; exact List.getElem_mem _)
          obtain ⟨wv, hwv, hwk⟩ : ∃ wv : Nat, m.outs.getD j 0 = (wv : Int) ∧ wv < k := by
            have hnl := HN.out
            obtain ⟨oz, hoz⟩ : ∃ z, m.outs.getD j 0 = z := ⟨_, rfl⟩
            rw [hoz] at hout ⊢
            unfold inB at hout
            simp at hout
            exact ⟨oz.toNat, by omega, by omega⟩
          rw [hwv] at qb
          obtain ⟨zk, hzk, hz6⟩ := lab_get LL.out wv
          obtain ⟨bz, oz, rfl, hbz, qz⟩ := IZ.out.cell hwk
          rw [hzk] at qz
          obtain ⟨ev, hev⟩ : ∃ e, zk &&& 1 = e := ⟨_, rfl⟩
          have HC : Hid (decTo m zs (j + 1) = decTo m zs j ++ [((ev : Nat) : Int)]) := by
            rw [decTo_succ m zs j (by rw [HQ.out]; exact hlt), hwv, Int.toNat_natCast, hzk, Int.toNat_natCast, hev]
            exact Lib.hid rfl
          have hE : bits .and .i64 (zk : Int) 1 = (ev : Int) := by rw [← hev]; exact and_nat zk 1 (by omega) (by omega)
          have HE := Lib.hid hE
          have HNC := Lib.hid (decTo_len m zs j (by rw [HQ.out]; exact hj))
          obtain ⟨A1, c2, F1, pc, -, ho1, ⟨hf1, hf2, hf3⟩, hpu⟩ := sof_row (i := 2) SR.out rfl HNC.out G4.out.size
          have T7 := T3.out.grow GR.out
          have t0 := T7.cell 0
          have t1 := T7.cell 1
          simp at t0 t1
          have PC := Lib.hid pc
          have QZ := Lib.hid (gbk (gbT G3.out GR.out) qz)
          have hz0 := G3.out.size
          have TT1 := Lib.hid t1
          have HO1 := Lib.hid ho1
          have HPU := Lib.hid hpu
          have HF1 := Lib.hid hf1
          have HF2 := Lib.hid hf2
          have hz3 := T3.out.lt
          have hg7 := GR.out.size
          have kb := gbk (gbT G3.out GR.out) qb
          have iw : (wv : Int) < (k : Int) := by omega
          have KBB := Lib.hid kb
          have C1 := Lib.hid c1
          have hd3 := D3.out.lt
          have hbb0 : bb < w0.heap.size := hbb
          clear ho1 hpu pc qz t0 t1 hf1 hf2 hzk hev qb hwv hout hE SR T7
          go_wp2_with fail
          clear kb c0 c1
          have hE := HE.out
          refine region_chain [.rd (.pointer (some ⟨wi.heap.size, 2, none⟩)), .rd (.slice A1 j c2), .rd (.pointer (some ⟨w0.heap.size + 1, 1, none⟩)), .rd (.slice (some ⟨bz, oz, none⟩) k cz), .rd (.pointer (some ⟨w0.heap.size, 1, none⟩)), .rd (.slice (some ⟨bb, ob, none⟩) q cB), .rd (.int .i64 j), .rd (.pointer (some ⟨bb, ob + j, none⟩)), .rd (.int .i64 wv), .rd (.pointer (some ⟨bz, oz + wv, none⟩)), .rd (.int .i64 zk), .rd (.int .i64 ev), .ch, .ch, .rd (.pointer (some ⟨wi.heap.size, 2, none⟩)), .ch] (fun y => y ∈ F1)
            [⟨[], fun _ w' => w' = wr.drew⟩,
             ⟨[71], fun l w' => ∃ w5, w' = w5.alloc (.cells #[.int .i64 ev] 3) ∧ l.getD 0 undef = .slice (some ⟨w5.heap.size, 0, none⟩) 1 1 ∧ wr.drew.grownBy w5 none⟩,
             ⟨[72], fun l w' => ∃ A8 c8, l.getD 0 undef = .slice A8 (j + 1) c8 ∧ ∃ F8, (cints (decTo m zs j ++ [(ev : Int)])).own w' F8 (.slice A8 (j + 1) c8) ∧ Chg (fun y => y ∈ F1) wr w' ∧ ∀ y ∈ F8, y ∈ F1 ∨ wr.heap.size ≤ y⟩,
             ⟨[], fun _ w' => sofF w3.heap.size 70 (cpub ts (conTo s m.gt zs k) (decTo m zs (j + 1))) wi.heap.size w' ∧ w3.grownBy w' none⟩]
            (by kernel_rfl) (by kernel_rfl) (by kernel_rfl) 3 (by kernel_rfl) (by simp only [flOk, and_true]) rfl rfl ?_ ?_
          · simp only [hopsK, hopK, Kd.next, and_true]
            refine ⟨?_, ?_, ?_, ?_, ?_, ?_, ?_, ?_, ?_, ?_, ?_, ?_, ?_, ?_, ?_, ?_⟩
            · intro f w4 hG hd
              (try simp [depsC, dstAt, kAt, bindE, List.filter_cons, bd_data, bd_chain, bd_guard, bd_phase, bd_text, bd_gc] at hd)
              (first | simp [puts, dsts, Act.put, hd] | simp [puts, dsts, Act.put])
              clear hd
              go_wp2_with fail
              exact ⟨rfl, rfl⟩
            · intro f w4 hG hd
              have b5 := hG.cell (gbk (gbD (gbR wr none)) PC.out) (by simp; omega) (fun e => by exact HF2.out e)
              (try simp [depsC, dstAt, kAt, bindE, List.filter_cons, bd_data, bd_chain, bd_guard, bd_phase, bd_text, bd_gc] at hd)
              (first | simp [puts, dsts, Act.put, hd] | simp [puts, dsts, Act.put])
              clear hd
              go_wp2_with fail
              exact ⟨rfl, rfl⟩
            · intro f w4 hG hd
              (try simp [depsC, dstAt, kAt, bindE, List.filter_cons, bd_data, bd_chain, bd_guard, bd_phase, bd_text, bd_gc] at hd)
              (first | simp [puts, dsts, Act.put, hd] | simp [puts, dsts, Act.put])
              clear hd
              go_wp2_with fail
              exact ⟨rfl, rfl⟩
            · intro f w4 hG hd
              have b5 := hG.cell (gbk (gbD (gbR wr none)) TT1.out) (by simp; omega) (fun e => by have := (HF1.out _ e).1; omega)
              (try simp [depsC, dstAt, kAt, bindE, List.filter_cons, bd_data, bd_chain, bd_guard, bd_phase, bd_text, bd_gc] at hd)
              (first | simp [puts, dsts, Act.put, hd] | simp [puts, dsts, Act.put])
              clear hd
              go_wp2_with fail
              exact ⟨rfl, rfl⟩
            · intro f w4 hG hd
              (try simp [depsC, dstAt, kAt, bindE, List.filter_cons, bd_data, bd_chain, bd_guard, bd_phase, bd_text, bd_gc] at hd)
              (first | simp [puts, dsts, Act.put, hd] | simp [puts, dsts, Act.put])
              clear hd
              go_wp2_with fail
              exact ⟨rfl, rfl⟩
            · intro f w4 hG hd
              have b5 := hG.cell (gbk (gbD (gbR wr none)) C1.out) (by simp; omega) (fun e => by have := (HF1.out _ e).1; omega)
              (try simp [depsC, dstAt, kAt, bindE, List.filter_cons, bd_data, bd_chain, bd_guard, bd_phase, bd_text, bd_gc] at hd)
              (first | simp [puts, dsts, Act.put, hd] | simp [puts, dsts, Act.put])
              clear hd
              go_wp2_with fail
              exact ⟨rfl, rfl⟩
            · intro f w4 hG hd
              (try simp [depsC, dstAt, kAt, bindE, List.filter_cons, bd_data, bd_chain, bd_guard, bd_phase, bd_text, bd_gc] at hd)
              (first | simp [puts, dsts, Act.put, hd] | simp [puts, dsts, Act.put])
              clear hd
              go_wp2_with fail
              exact ⟨rfl, rfl⟩
            · intro f w4 hG hd
              (try simp [depsC, dstAt, kAt, bindE, List.filter_cons, bd_data, bd_chain, bd_guard, bd_phase, bd_text, bd_gc] at hd)
              (first | simp [puts, dsts, Act.put, hd] | simp [puts, dsts, Act.put])
              clear hd
              go_wp2_with fail
              exact ⟨rfl, rfl⟩
            · intro f w4 hG hd
              have b5 := hG.cell (gbk (gbD (gbR wr none)) KBB.out) (by simp; omega) (fun e => by have := (HF1.out _ e).1; omega)
              (try simp [depsC, dstAt, kAt, bindE, List.filter_cons, bd_data, bd_chain, bd_guard, bd_phase, bd_text, bd_gc] at hd)
              (first | simp [puts, dsts, Act.put, hd] | simp [puts, dsts, Act.put])
              clear hd
              go_wp2_with fail
              exact ⟨rfl, rfl⟩
            · intro f w4 hG hd
              (try simp [depsC, dstAt, kAt, bindE, List.filter_cons, bd_data, bd_chain, bd_guard, bd_phase, bd_text, bd_gc] at hd)
              (first | simp [puts, dsts, Act.put, hd] | simp [puts, dsts, Act.put])
              clear hd
              go_wp2_with fail
              exact ⟨rfl, rfl⟩
            · intro f w4 hG hd
              have b5 := hG.cell (gbk (gbD (gbR wr none)) QZ.out) (by simp; omega) (fun e => by have := (HF1.out _ e).1; omega)
              (try simp [depsC, dstAt, kAt, bindE, List.filter_cons, bd_data, bd_chain, bd_guard, bd_phase, bd_text, bd_gc] at hd)
              (first | simp [puts, dsts, Act.put, hd] | simp [puts, dsts, Act.put])
              clear hd
              go_wp2_with fail
              exact ⟨rfl, rfl⟩
            · intro f w4 hG hd
              (try simp [depsC, dstAt, kAt, bindE, List.filter_cons, bd_data, bd_chain, bd_guard, bd_phase, bd_text, bd_gc] at hd)
              (first | simp [puts, dsts, Act.put, hd] | simp [puts, dsts, Act.put])
              clear hd
              go_wp2_with fail
              exact ⟨rfl, rfl⟩
            · intro f w4 hG hI hd
              have hI : w4 = wr.drew := hI
              subst hI
              (try simp [depsC, dstAt, kAt, bindE, List.filter_cons, bd_data, bd_chain, bd_guard, bd_phase, bd_text, bd_gc] at hd)
              (first | simp [puts, dsts, Act.put, hd] | simp [puts, dsts, Act.put])
              clear hd
              go_wp2_with fail
              exact ⟨_, rfl, ⟨wr.drew, rfl, rfl, gbR _ _⟩, ⟨Chg.of (gbA (gbR _ none) _) (by simp), by simp [keepsC, dstAt]⟩⟩
            · intro f w4 hG hI hd
              obtain ⟨w5, rfl, e43, h1⟩ := hI
              have e43 : f 71 = .slice (some ⟨w5.heap.size, 0, none⟩) 1 1 := e43
              (try simp [depsC, dstAt, kAt, bindE, List.filter_cons, bd_data, bd_chain, bd_guard, bd_phase, bd_text, bd_gc] at hd)
              simp [puts, dsts, Act.put, hd, e43]
              have gg5 : wr.grownBy w5 none := gbT (gbD (gbR _ _)) h1
              refine wp_pushG w5 w5.heap.size rfl rfl (.tmp 60) (.tmp 71) rfl ev A1 j c2 (decTo m zs j) F1 (own_growK _ HO1.out gg5) HNC.out rfl rfl (by omega) ?_
              intro A8 c8 w9 F8 O8 C8 S8
              have hs5 := gg5.size
              go_wp2_with fail
              refine ⟨_, rfl, ⟨A8, c8, rfl, F8, O8.out, ((Chg.of gg5 (by simp)).trans (Chg.of (gbA (gbR w5 none) _) (by simp))).trans C8.out, fun y hy => ?_⟩, ⟨C8.out, by simp [keepsC, dstAt]⟩⟩
              · rcases S8.out y hy with h | h
                · exact .inl h
                · exact .inr (by omega)
            · intro f w4 hG hd
              (try simp [depsC, dstAt, kAt, bindE, List.filter_cons, bd_data, bd_chain, bd_guard, bd_phase, bd_text, bd_gc] at hd)
              (first | simp [puts, dsts, Act.put, hd] | simp [puts, dsts, Act.put])
              clear hd
              go_wp2_with fail
              exact ⟨rfl, rfl⟩
            · intro f w4 hG hI hd
              obtain ⟨A8, c8, e44, F8, o8, ch8, l8⟩ := hI
              have e44 : f 72 = .slice A8 (j + 1) c8 := e44
              obtain ⟨q1, q2, S10, G10⟩ := HPU.out w4 A8 (j + 1) c8 F8 _ o8 ch8 l8
              (try simp [depsC, dstAt, kAt, bindE, List.filter_cons, bd_data, bd_chain, bd_guard, bd_phase, bd_text, bd_gc] at hd)
              simp [puts, dsts, Act.put, hd, e44]
              clear hd
              go_wp2_with fail
              refine ⟨rfl, .bool false, ?_, ?_⟩
              · rw [HC.out]; exact S10
              · exact G10 w3 (Nat.le_refl _) GR.out
          intro f w8 hI hd
          simp only [puts, dsts, Act.put, List.filterMap_cons, List.filterMap_nil, List.setIfInBounds_toArray, List.set_cons_zero, List.set_cons_succ]
          obtain ⟨S8, G8⟩ := hI
          have HS8 := Lib.hid S8
          have HG8 := Lib.hid G8
          clear S8 G8 hd
          go_wp2_with fail
          go_roundw
          case rel => exact ⟨j + 1, HJ1.out, by go_num, HS8, HG8⟩
          case measure => have := HJ1.out; simp [intOf]; omega
        · have hjq : j = q := by omega
          subst hjq
          obtain ⟨E1, n0, e0, A1, n1, c1, B1, n2, c2, F1, l0, l1, l2, ho, hF1⟩ := pub_load SR.out
          have R9 := R3.out.grow GR.out
          have z3 := R3.out.lt
          have RS := SOF.store R9 (us := [.slice E1 n0 e0, .slice A1 n1 c1, .slice B1 n2 c2]) rfl ho (fun hx => by have := hF1 _ hx; omega)
          simp only [setCells, Nat.zero_add, Nat.reduceAdd] at RS
          have r0 := R9.cell 0
          have r1 := R9.cell 1
          have r2 := R9.cell 2
          have f0 := R9.frozen 0
          have f1 := R9.frozen 1
          have f2 := R9.frozen 2
          simp at r0 r1 r2 f0 f1 f2
          have GE : Hid (w0.grownBy (setCells wr (w0.heap.size + 1 + 1) 0 [.slice E1 n0 e0, .slice A1 n1 c1, .slice B1 n2 c2]) none) := Lib.hid (gb_chg (gbT G3.out GR.out) (chg_setCells _ _ _ _) (by omega))
          simp only [setCells, Nat.zero_add, Nat.reduceAdd] at GE
          have HRS := Lib.hid RS
          clear RS
          go_wp2_with fail
          obtain ⟨vs, B9, o9⟩ := HRS.out.agg
          have B := ((R9.set_ 0 (.slice E1 n0 e0)).set_ 1 (.slice A1 n1 c1)).set_ 2 (.slice B1 n2 c2)
          have e : some (Obj.cells vs.toArray 70 (0, 0)) = some (Obj.cells #[.slice E1 n0 e0, .slice A1 n1 c1, .slice B1 n2 c2] 70 (0, 0)) := B9.symm.trans B
          injection e with e
          injection e with e _
          rw [e] at o9 B9
          refine ret_ct Try.results101 (by rfl) stPublic (cs := #[.slice E1 n0 e0, .slice A1 n1 c1, .slice B1 n2 c2]) B9 (by rfl) (by rfl) ?_
          exact ⟨_, rfl, ⟨F1, o9, fun x hx => by have := hF1 _ hx; omega⟩, GE.out⟩
end Go.Proofs.Ythdfkiaoahpjpaa
