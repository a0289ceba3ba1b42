/-
  An access: the reference's filling of all buckets of a path (its second loop).
-/
import Derived.Test.YthncoohkdmjcaaaMgFnMemory35
namespace Go.Proofs.Ythncoohkdmjcaaa
open Go.RowKit
set_option linter.unusedVariables false
set_option linter.unusedSimpArgs false
set_option maxHeartbeats 4000000 in
set_option maxRecDepth 1000000 in
theorem saFill (x0 : World) (H G : Nat) (m3 : OM) (gq cq : Nat) (old : Int) (w : World) (hH : x0.heap.size = H) (ok3 : M3 m3) (KL : (opath old).length = 4)
    (OC : OSE H G m3 w) (GC : x0.grownBy w none) (PQ : PathO gq cq old w)
    (Q : Exit → Act → World → Prop) (s0 s1 s2 s3 s4 s5 s6 s7 s8 s9 s10 s11 s12 s13 s15 s17 s18 s19 s21 s22 s23 s24 s25 s26 s27 s28 s29 s30 s31 s32 s33 s34 s35 s36 s37 s38 s39 s40 s41 s42 s43 s44 s45 s46 s47 s48 s49 s50 s51 s52 s53 s54 s55 s56 s57 s58 s59 s60 s61 s62 s63 s64 s65 s66 s67 s68 s69 s70 s71 s72 s73 s74 s75 s76 s77 s78 s79 s80 s81 s82 s83 s84 s85 s86 s87 s88 s89 s90 s91 s92 s93 s94 s95 s96 s97 s98 s99 s100 s101 s102 s103 s104 s105 s106 s107 s108 s109 s110 s111 s112 s113 s114 s115 s116 s117 s118 s119 s120 s121 s122 s123 s124 s125 s126 s127 s128 s129 : Value)
    (hQ : ∀ (v20 v115 v116 v117 v118 v119 v120 v121 v122 v123 v124 v125 : Value) (w' : World), OSE H G (fill m3 (opath old)) w' → x0.grownBy w' none →
      Q (.exit 2) (⟨List.toArray (s0 :: s1 :: s2 :: s3 :: s4 :: s5 :: s6 :: s7 :: s8 :: s9 :: s10 :: s11 :: s12 :: s13 :: (.pointer (some ⟨G, 0, none⟩)) :: s15 :: (.slice (some ⟨gq, 0, none⟩) 4 cq) :: s17 :: s18 :: s19 :: v20 :: s21 :: s22 :: s23 :: s24 :: s25 :: s26 :: s27 :: s28 :: s29 :: s30 :: s31 :: s32 :: s33 :: s34 :: s35 :: s36 :: s37 :: s38 :: s39 :: s40 :: s41 :: s42 :: s43 :: s44 :: s45 :: s46 :: s47 :: s48 :: s49 :: s50 :: s51 :: s52 :: s53 :: s54 :: s55 :: s56 :: s57 :: s58 :: s59 :: s60 :: s61 :: s62 :: s63 :: s64 :: s65 :: s66 :: s67 :: s68 :: s69 :: s70 :: s71 :: s72 :: s73 :: s74 :: s75 :: s76 :: s77 :: s78 :: s79 :: s80 :: s81 :: s82 :: s83 :: s84 :: s85 :: s86 :: s87 :: s88 :: s89 :: s90 :: s91 :: s92 :: s93 :: s94 :: s95 :: s96 :: s97 :: s98 :: s99 :: s100 :: s101 :: s102 :: s103 :: s104 :: s105 :: s106 :: s107 :: s108 :: s109 :: s110 :: s111 :: s112 :: s113 :: s114 :: v115 :: v116 :: v117 :: v118 :: v119 :: v120 :: v121 :: v122 :: v123 :: v124 :: v125 :: s126 :: s127 :: s128 :: s129 :: []), []⟩ : Act) w') :
    Code.wp Try.prog (.loop (loopNo Try.f39 1)) Q (⟨List.toArray (s0 :: s1 :: s2 :: s3 :: s4 :: s5 :: s6 :: s7 :: s8 :: s9 :: s10 :: s11 :: s12 :: s13 :: (.pointer (some ⟨G, 0, none⟩)) :: s15 :: (.slice (some ⟨gq, 0, none⟩) 4 cq) :: s17 :: s18 :: s19 :: (.int .i64 0) :: s21 :: s22 :: s23 :: s24 :: s25 :: s26 :: s27 :: s28 :: s29 :: s30 :: s31 :: s32 :: s33 :: s34 :: s35 :: s36 :: s37 :: s38 :: s39 :: s40 :: s41 :: s42 :: s43 :: s44 :: s45 :: s46 :: s47 :: s48 :: s49 :: s50 :: s51 :: s52 :: s53 :: s54 :: s55 :: s56 :: s57 :: s58 :: s59 :: s60 :: s61 :: s62 :: s63 :: s64 :: s65 :: s66 :: s67 :: s68 :: s69 :: s70 :: s71 :: s72 :: s73 :: s74 :: s75 :: s76 :: s77 :: s78 :: s79 :: s80 :: s81 :: s82 :: s83 :: s84 :: s85 :: s86 :: s87 :: s88 :: s89 :: s90 :: s91 :: s92 :: s93 :: s94 :: s95 :: s96 :: s97 :: s98 :: s99 :: s100 :: s101 :: s102 :: s103 :: s104 :: s105 :: s106 :: s107 :: s108 :: s109 :: s110 :: s111 :: s112 :: s113 :: s114 :: s115 :: s116 :: s117 :: s118 :: s119 :: s120 :: s121 :: s122 :: s123 :: s124 :: s125 :: s126 :: s127 :: s128 :: s129 :: []), []⟩ : Act) w := by
  conv => arg 2; arg 1; whnf
  have HQ := Lib.hid hQ
  have ok3 := Lib.hid ok3
  have OC := Lib.hid OC
  have GC := Lib.hid GC
  have PQ := Lib.hid PQ
  have KS : ∀ k ∈ opath old, k < 15 := fun k hk => opath_lt hk
  clear hQ
  go_loopw [20] (fun i wr => ∃ j : Nat, j ≤ 4 ∧ i = .int .i64 j ∧ Hid (OSE H G (fill m3 ((opath old).take j)) wr) ∧ Hid (x0.grownBy wr none) ∧ Hid (PathO gq cq old wr)) (fun i _ => 4 - (intOf i).toNat)
  case atStart => exact ⟨0, Nat.zero_le _, rfl, OC, GC, PQ⟩
  case round =>
    clear OC GC PQ
    obtain ⟨j, hj, rfl, hO, hGr, hP⟩ := hrel
    by_cases hlt : j < 4
    · have i1 : (j : Int) < 4 := by omega
      obtain ⟨k, hk⟩ : ∃ k, (opath old)[j]? = some k := ⟨_, List.getElem?_eq_getElem (by omega)⟩
      have hk15 : k < 15 := KS k (List.mem_of_getElem? hk)
      have hnext := fill_next (m := m3) hk
      have okj := M3.fill ok3.out (ks := (opath old).take j) (fun y hy => KS y (List.mem_of_mem_take hy))
      have p1 := hP.out.at_ hk
      have HNX := Lib.hid hnext
      clear hnext
      have HF := Lib.hid (specl31Fill_c x0 H G _ k gq cq old wr hH hk15 okj hO.out hGr.out hP.out)
      clear okj
      go_wp2_with fail
      refine HF.out.mono ?_
      rintro e w5 ⟨rfl, o5, g5, p5⟩
      rw [← HNX.out] at o5
      have O7 := Lib.hid o5
      have G7 := Lib.hid g5
      have P7 := Lib.hid p5
      clear o5 g5 p5
      go_wp2_with fail
      go_roundw
      case rel => exact ⟨j + 1, by omega, by go_num, O7, G7, P7⟩
      case measure => simp [intOf]; omega
    · have hj4 : j = 4 := by omega
      subst hj4
      rw [List.take_of_length_le (by omega)] at hO
      go_wp2_with fail
      exact HQ.out _ _ _ _ _ _ _ _ _ _ _ _ _ hO.out hGr.out
end Go.Proofs.Ythncoohkdmjcaaa
