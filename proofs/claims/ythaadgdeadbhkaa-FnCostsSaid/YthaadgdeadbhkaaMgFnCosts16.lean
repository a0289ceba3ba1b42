/-
  MacCheck: reference and program; the sum of keys.
-/
import Derived.Test.YthaadgdeadbhkaaMgFnCosts15
import Derived.Test.YthaadgdeadbhkaaMgFnCosts13
namespace Go.Proofs.Ythaadgdeadbhkaa
open Go.RowKit
set_option linter.unusedVariables false
set_option linter.unusedSimpArgs false
def macCheck (k : KM) (o : Int) (a : AuM) : Bool := keysB k && elemB k.p o && ((a.mc.length : Int) == (k.al.length : Int)) && elemsB k.p a.mc && (fsum k.p a.mc == (o * fsum k.p k.al) % k.p)
theorem keys_is {k : KM} (h : keysB k = true) : fieldB k.p = true ∧ elemsB k.p k.al = true ∧ 1 ≤ k.al.length ∧ k.al.length ≤ 5 := by
  unfold keysB at h
  rw [Bool.and_eq_true] at h
  have := inQ_is h.2
  exact ⟨(elemsB_is h.1).1, h.1, by omega, by omega⟩
theorem specl23Key_y (k : KM) (kv : Value) (w : World) (h : AggR w (ckeys k) kv) (hk : keysB k = true) :
    Calls Try.prog 74 #[kv] w fun e w' => e = .returned (.int .i64 (fsum k.p k.al)) ∧ w.grownBy w' none := by
  obtain ⟨A, c, rfl, hc, hm, hI⟩ := ckeys_sl h
  obtain ⟨_, he, h1, h5⟩ := keys_is hk
  have HI := Lib.hid (hI.grow (gbA (gbR w none) (.cells #[.int .i64 k.p, .slice A k.al.length c] 26)))
  have HE := Lib.hid he
  clear h hI he hk
  go_enter Try.func74, Try.ntmps74
  go_wp2_with fail
  refine (specFSum_y k.p A k.al.length c k.al _ HE.out HI.out (by omega)).mono ?_
  rintro e w1 ⟨rfl, rfl⟩
  go_wp2_with fail
  go_ret
  exact ⟨rfl, gbA (gbR _ _) _⟩
set_option maxHeartbeats 2000000 in
set_option maxRecDepth 100000 in
theorem specMacCheck_c (k : KM) (o : Int) (a : AuM) (kv av : Value) (w : World) (h : AggR w (ckeys k) kv) (ha : AggR w (cauth a) av) (wk : kwf k) (wa : awf a) :
    Calls Try.prog 98 #[kv, .int .i64 o, av] w fun e w' => e = .returned (.bool (macCheck k o a)) ∧ w.grownBy w' none := by
  obtain ⟨A, c, rfl, hc, hm, hI⟩ := ckeys_sl h
  obtain ⟨B, d, C, fc, rfl, _, _, _, _, hS, hM⟩ := cauth_sl ha
  obtain ⟨wa1, wa2⟩ := wa
  have hp := wk.1
  have hl := wk.2
  obtain ⟨wp1, wp2⟩ := hp
  have G0 := Lib.hid (gbA (gbA (gbR w none) (.cells #[.int .i64 k.p, .slice A k.al.length c] 26)) (.cells #[.slice B a.sh.length d, .slice C a.mc.length fc] 44))
  have HK := Lib.hid (AggR.grow h G0.out)
  have IK := Lib.hid (hI.grow G0.out)
  have IM := Lib.hid (hM.grow G0.out)
  have B0 := Lib.hid ((Blk.new w 26 #[.int .i64 k.p, .slice A k.al.length c]).grow (gbA (gbR _ _) (.cells #[.slice B a.sh.length d, .slice C a.mc.length fc] 44)))
  have B1 := Lib.hid (Blk.new' (w.alloc (.cells #[.int .i64 k.p, .slice A k.al.length c] 26)) 44 #[.slice B a.sh.length d, .slice C a.mc.length fc] (w.heap.size + 1) (by simp))
  have WK := Lib.hid wk
  have HF : Hid (macCheck k o a = (keysB k && elemB k.p o && ((a.mc.length : Int) == (k.al.length : Int)) && elemsB k.p a.mc && (fsum k.p a.mc == (o * fsum k.p k.al) % k.p))) := rfl
  clear h ha hI hS hM wk
  go_enter Try.func98, Try.ntmps98
  go_wp2_with fail
  refine (specKeysOk_c k _ _ HK.out WK.out).mono ?_
  rintro e w1 ⟨rfl, g1⟩
  have K1 := Lib.hid (AggR.grow HK.out g1)
  have I1 := Lib.hid (IK.out.grow g1)
  have M1 := Lib.hid (IM.out.grow g1)
  have c0 := (B0.out.grow g1).cell 0
  have c1 := (B0.out.grow g1).cell 1
  have d1 := (B1.out.grow g1).cell 1
  simp at c0 c1 d1
  have G1 := Lib.hid (gbT G0.out g1)
  clear g1 HK IK IM B0 B1 WK
  cases b0 : keysB k
  · rw [b0] at HF
    go_wp2_with fail
    go_ret
    exact ⟨retB (by rw [HF.out]; rfl), G1.out⟩
  have b0h := Lib.hid b0
  go_wp2_with fail
  refine (specIsElement_c k.p o _ (by omega)).mono ?_
  rintro e w2 ⟨rfl, rfl⟩
  cases b1 : elemB k.p o
  · rw [b0, b1] at HF
    go_wp2_with fail
    go_ret
    exact ⟨retB (by rw [HF.out]; rfl), G1.out⟩
  have b1h := Lib.hid b1
  cases b2 : ((a.mc.length : Int) == (k.al.length : Int))
  · rw [b0, b1, b2] at HF
    have n2 : ((a.mc.length : Int) != (k.al.length : Int)) = true := by rw [bne, b2]; rfl
    clear b2 b0 b1
    go_wp2_with fail
    go_ret
    exact ⟨retB (by rw [HF.out]; rfl), G1.out⟩
  have n2 : ((a.mc.length : Int) != (k.al.length : Int)) = false := by rw [bne, b2]; rfl
  rw [b0, b1, b2] at HF
  clear b2 b0 b1
  go_wp2_with fail
  refine (specl03All_c k.p C a.mc.length fc a.mc _ (by omega) M1.out (by omega)).mono ?_
  rintro e w2 ⟨rfl, rfl⟩
  cases b3 : elemsB k.p a.mc
  · rw [b3] at HF
    go_wp2_with fail
    go_ret
    exact ⟨retB (by rw [HF.out]; rfl), G1.out⟩
  rw [b3] at HF
  obtain ⟨kf, ke, kl1, kl5⟩ := keys_is b0h.out
  have KE := Lib.hid ke
  have ME := Lib.hid b3
  have FE := Lib.hid (fsum_elem kf k.al)
  obtain ⟨S1, hS1⟩ : ∃ s, fsum k.p a.mc = s := ⟨_, rfl⟩
  obtain ⟨S2, hS2⟩ : ∃ s, fsum k.p k.al = s := ⟨_, rfl⟩
  obtain ⟨S3, hS3⟩ : ∃ s, (o * S2) % k.p = s := ⟨_, rfl⟩
  have HS1 := Lib.hid hS1
  have HS2 := Lib.hid hS2
  have HS3 := Lib.hid hS3
  rw [hS1, hS2, hS3] at HF
  rw [hS2] at FE
  have C0 := Lib.hid c0
  have C1 := Lib.hid c1
  have D1 := Lib.hid d1
  clear ke kf b3 hS1 hS2 hS3 n2
  go_wp2_with fail
  clear c0 c1 d1
  refine region_grow [isV (.pointer (some ⟨w.heap.size, 0, none⟩)), isV (.int .i64 k.p), isV (.pointer (some ⟨w.heap.size + 1, 1, none⟩)), isV (.slice C a.mc.length fc), isV (.int .i64 S1), isV (.pointer (some ⟨w.heap.size, 0, none⟩)), isV (.int .i64 k.p), isV (.int .i64 o), isV (.agg #[.int .i64 k.p, .slice A k.al.length c]), isV (.int .i64 S2), isV (.int .i64 S3), isV (.bool (S1 == S3)), isV (.bool (S1 == S3))] (by kernel_rfl) (by kernel_rfl) (by kernel_rfl) (by simp [stables, isV_st]) ?_ ?_
  · simp only [hops, and_true]
    refine ⟨?_, ?_, ?_, ?_, ?_, ?_, ?_, ?_, ?_, ?_, ?_, ?_, ?_⟩
    all_goals
      intro f w1 hG hd
      have k0 := gbk (gbT (gbD (gbR _ _)) hG) (C0.out)
      have k1 := gbk (gbT (gbD (gbR _ _)) hG) (C1.out)
      have k2 := gbk (gbT (gbD (gbR _ _)) hG) (D1.out)
      simp [deps, tAt, isV] at hd
      first | simp [puts, dsts, Act.put, hd] | simp [puts, dsts, Act.put]
      clear hd
      go_wp2_with (first | (go_at_call 62; refine (specFMul_y k.p o S2 _ b1h.out FE.out).mono ?_; rintro e w6 ⟨rfl, hw⟩; rw [HS3.out]) | (go_at_call 73; refine (specFSum_y k.p C a.mc.length fc a.mc _ ME.out (M1.out.grow (gbT (gbD (gbR _ none)) hG)) (by omega)).mono ?_; rintro e w6 ⟨rfl, rfl⟩; rw [HS1.out]) | (go_at_call 74; refine (specl23Key_y k _ _ (AggR.grow K1.out (gbT (gbD (gbR _ none)) hG)) b0h.out).mono ?_; rintro e w6 ⟨rfl, hw⟩; rw [HS2.out]))
    all_goals exact ⟨_, rfl, by first | with_reducible exact gbR _ _ | exact hw, by first | (simp [tAt, isV]; done) | (simp [tAt, isV]; assumption)⟩
  intro f w5 hG hd
  simp [knows, tAt, isV] at hd
  obtain ⟨h0_, h1_, h2_, h3_, h4_, h5_, h6_, h7_, h8_, h9_, h10_, h11_, h12_⟩ := hd
  simp only [puts, dsts, Act.put, h0_, h1_, h2_, h3_, h4_, h5_, h6_, h7_, h8_, h9_, h10_, h11_, h12_, List.filterMap_cons, List.filterMap_nil, List.setIfInBounds_toArray, List.set_cons_zero, List.set_cons_succ]
  clear h0_ h1_ h2_ h3_ h4_ h5_ h6_ h7_ h8_ h9_ h10_ h11_ h12_
  have g5 := gbT (gbD (gbR _ none)) hG
  clear hG
  have GZ := Lib.hid (gbT G1.out g5)
  go_wp2_with fail
  go_ret
  exact ⟨retB (by rw [HF.out]; rfl), GZ.out⟩
end Go.Proofs.Ythaadgdeadbhkaa
/-
  shared: shares of an element (the program's own helper).
-/
namespace Go.Proofs.Ythaadgdeadbhkaa
open Go.RowKit
set_option linter.unusedVariables false
set_option linter.unusedSimpArgs false
end Go.Proofs.Ythaadgdeadbhkaa
/-
  AuthNew of the program.
-/
namespace Go.Proofs.Ythaadgdeadbhkaa
open Go.RowKit
set_option linter.unusedVariables false
set_option linter.unusedSimpArgs false
def authNew (k : KM) (P s a : Nat) (x : Int) : AuM := ⟨shareL k.p x (tapeL s a P (k.al.length - 1)), shareL k.p ((x * fsum k.p k.al) % k.p) (tapeL s (a + (k.al.length - 1)) P (k.al.length - 1))⟩
theorem row1_chg {lo n g : Nat} {L : List Int} {v : Value} {w w' : World} (h : row1 lo n L v w) (k : Chg (fun y => y = g) w w') (hg : g < lo) : row1 lo n L v w' := by
  obtain ⟨A, c, h1, h2⟩ := h
  exact ⟨A, c, h1, Chg.own h2 k (fun x hx (e : x = g) => by have := (h2.lt x hx).1; omega)⟩
theorem row1_st {lo n : Nat} {L : List Int} : stable (row1 lo n L) := fun v w w' h hg => h.grow hg
end Go.Proofs.Ythaadgdeadbhkaa
/-
  minus, valueIn, copyAuth: the program's helpers.
-/
namespace Go.Proofs.Ythaadgdeadbhkaa
open Go.RowKit
set_option linter.unusedVariables false
set_option linter.unusedSimpArgs false
theorem autF_st {lo : Nat} {m : AuM} : stable (autF lo m) := fun v w w' h hg => h.grow hg
theorem autF.rd {lo : Nat} {m : AuM} {v : Value} {w : World} (h : autF lo m v w) : AggR w (cauth m) v := by
  obtain ⟨F, h1, _⟩ := h
  exact AggO.rd h1
theorem blk_setCells2 {w : World} {g : Nat} {T : TypeId} {x y : Value} (h : Blk w g T #[x, y]) (a b : Value) : Blk (setCells w g 0 [a, b]) g T #[a, b] := blk_setCells h [a, b] rfl
def minusA (k : KM) (a b : AuM) : AuM := authAdd k a (authScale k b (k.p - 1))
theorem add_len {xs ys : List Int} {p : Int} : (addS p xs ys).length ≤ xs.length := by unfold addS; rw [List.length_zipWith]; omega
theorem awf_no : awf noA := ⟨by simp [noA], by simp [noA]⟩
theorem awf_scale {k : KM} {a : AuM} {x : Int} (h : awf a) : awf (authScale k a x) := by
  unfold authScale
  split
  · exact ⟨by rw [sclS_len]; exact h.1, by rw [sclS_len]; exact h.2⟩
  · exact awf_no
theorem awf_add {k : KM} {a b : AuM} (h : awf a) : awf (authAdd k a b) := by
  unfold authAdd
  split
  · exact ⟨Nat.le_trans add_len h.1, Nat.le_trans add_len h.2⟩
  · exact awf_no
theorem awf_const {k : KM} {a : AuM} {x : Int} (h : awf a) : awf (authConst k a x) := by
  unfold authConst
  split
  · exact ⟨by rw [cstS_len]; exact h.1, Nat.le_trans add_len h.2⟩
  · exact awf_no
end Go.Proofs.Ythaadgdeadbhkaa
/-
  Triples: what they read as; TripleUse of the program.
-/
namespace Go.Proofs.Ythaadgdeadbhkaa
open Go.RowKit
set_option linter.unusedVariables false
set_option linter.unusedSimpArgs false
structure TrM where
  a : AuM
  b : AuM
  c : AuM
abbrev ctriple (m : TrM) : List CS := cauth m.a ++ (cauth m.b ++ cauth m.c)
def twf (m : TrM) : Prop := awf m.a ∧ awf m.b ∧ awf m.c
theorem RdAll.split {w : World} {cs ds : List CS} {vs : List Value} (h : RdAll w (cs ++ ds) vs) : ∃ us ts, vs = us ++ ts ∧ RdAll w cs us ∧ RdAll w ds ts := by
  refine ⟨vs.take cs.length, vs.drop cs.length, (List.take_append_drop _ _).symm, ⟨?_, fun i c v hc hv => ?_⟩, ?_, fun i c v hc hv => ?_⟩
  · have := h.1; simp at this ⊢; omega
  · have hi := (List.getElem?_eq_some_iff.1 hc).1
    rw [List.getElem?_take, if_pos hi] at hv
    exact h.2 i c v (by rw [List.getElem?_append_left hi]; exact hc) hv
  · have := h.1; simp at this ⊢; omega
  · rw [List.getElem?_drop] at hv
    exact h.2 _ c v (by rw [List.getElem?_append_right (by omega), Nat.add_sub_cancel_left]; exact hc) hv
theorem ctriple_sl {w : World} {m : TrM} {v : Value} (h : AggR w (ctriple m) v) : ∃ A a B b C c D d E e F f, v = .agg #[.slice A m.a.sh.length a, .slice B m.a.mc.length b, .slice C m.b.sh.length c, .slice D m.b.mc.length d, .slice E m.c.sh.length e, .slice F m.c.mc.length f] ∧
    AggR w (cauth m.a) (.agg #[.slice A m.a.sh.length a, .slice B m.a.mc.length b]) ∧ AggR w (cauth m.b) (.agg #[.slice C m.b.sh.length c, .slice D m.b.mc.length d]) ∧ AggR w (cauth m.c) (.agg #[.slice E m.c.sh.length e, .slice F m.c.mc.length f]) := by
  obtain ⟨vs, rfl, h⟩ := h
  obtain ⟨u, t, rfl, h1, h⟩ := RdAll.split h
  obtain ⟨y, z, rfl, h2, h3⟩ := RdAll.split h
  obtain ⟨A, a, B, b, e1, _⟩ := cauth_sl ⟨u, rfl, h1⟩
  obtain ⟨C, c, D, d, e2, _⟩ := cauth_sl ⟨y, rfl, h2⟩
  obtain ⟨E, e, F, f, e3, _⟩ := cauth_sl ⟨z, rfl, h3⟩
  injection e1 with e1
  injection e2 with e2
  injection e3 with e3
  have e1 : u = [.slice A m.a.sh.length a, .slice B m.a.mc.length b] := by have := congrArg Array.toList e1; simpa using this
  have e2 : y = [.slice C m.b.sh.length c, .slice D m.b.mc.length d] := by have := congrArg Array.toList e2; simpa using this
  have e3 : z = [.slice E m.c.sh.length e, .slice F m.c.mc.length f] := by have := congrArg Array.toList e3; simpa using this
  subst e1; subst e2; subst e3
  exact ⟨A, a, B, b, C, c, D, d, E, e, F, f, rfl, ⟨_, rfl, h1⟩, ⟨_, rfl, h2⟩, ⟨_, rfl, h3⟩⟩
theorem cints_ty {w : World} {xs : List Int} {F : List Nat} {v : Value} (h : (cints xs).own w F v) : ∀ x ∈ F, ∃ cur z, w.heap[x]? = some (.cells cur 3 z) := by
  obtain ⟨n, vs, Fs, h1, h2, h3, h4, h5⟩ := h
  rw [flat_pl] at h3
  rw [ownAll_pl_eq h3, List.append_nil] at h4
  intro x hx
  rw [h4] at hx
  have hx : v.ownBlock = some x := by simpa using hx
  rcases h2.2 with ⟨e, _⟩ | ⟨g, cap, cur, hv, _, hg, _⟩
  · rw [e] at hx; cases hx
  · rw [hv] at hx
    have : g = x := by simpa [Value.ownBlock] using hx
    subst this
    exact ⟨_, _, hg⟩
theorem autF.far {lo g : Nat} {m : AuM} {v : Value} {w w' : World} {T : TypeId} {cs : Array Value} (h : autF lo m v w) (B : Blk w g T cs) (k : Chg (fun y => y = g) w w') (hT : 3 ≠ T := by decide) : autF lo m v w' := by
  obtain ⟨F, h1, h2⟩ := h
  refine ⟨F, h1.chg k (fun x hx (e : x = g) => ?_), h2⟩
  subst e
  obtain ⟨u0, u1, F0, F1, _, rfl, o0, o1, _⟩ := cauth_oopen h1
  have : ∃ cur z, w.heap[x]? = some (.cells cur 3 z) := by
    simp at hx
    rcases hx with hx | hx
    · exact cints_ty o0 x hx
    · exact cints_ty o1 x hx
  obtain ⟨cur, z, hc⟩ := this
  unfold Blk at B
  rw [B] at hc
  injection hc with hc
  injection hc with _ h3 _
  exact hT h3.symm
def tripleUse (k : KM) (x : TrM) (d e : Int) : AuM := if (formB k x.a && formB k x.b && formB k x.c) && (elemB k.p d && elemB k.p e) then authConst k (authAdd k (authAdd k x.c (authScale k x.b d)) (authScale k x.a e)) ((d * e) % k.p) else noA
end Go.Proofs.Ythaadgdeadbhkaa
/-
  The general law on a region that draws its order, with operations that may write into blocks which were there before (touch: which operation into which), and with slots that are read in the region ahead of the operation that writes them: what such an operation waits for, at first hand or through others, sees block and slot as they were.
-/
namespace Go.Proofs.Ythaadgdeadbhkaa
open Go.RowKit
set_option linter.unusedVariables false
set_option linter.unusedSimpArgs false
def hop6 (P : Program) (ops : Array Oper) (T : List Fact) (W : World) (a0 : Act) (touch : List (Nat × Nat)) (o : Oper) (k : Nat) : Prop :=
  ∀ (f : Tmp → Value) (w : World), Chg (fun b => ∃ s, (s, b) ∈ touch) W w → (∀ b, b < W.heap.size → (∀ s, (s, b) ∈ touch → aheadB ops s k = true) → w.heap[b]? = W.heap[b]?) → (∀ d, oldB ops k d = true → d ∈ dsts ops → f d = a0.tmps.getD d undef) → depsF T f w (bindE o) →
    wpList P ops (Only fun a' w' => ∃ v, a' = (puts a0 (dsts ops) f).put o.dst v ∧ (fAt T k).at_ (upd f o.dst v) w' ∧ (w.grownBy w' none ∨ (Chg (fun b => W.heap.size ≤ b ∨ (k, b) ∈ touch) w w' ∧ keeps f w w' k T 0))) [o] (puts a0 (dsts ops) f) w
def hops6 (P : Program) (ops : Array Oper) (T : List Fact) (W : World) (a0 : Act) (touch : List (Nat × Nat)) : List Oper → Nat → Prop
  | [], _ => True
  | o :: l, k => hop6 P ops T W a0 touch o k ∧ hops6 P ops T W a0 touch l (k + 1)
theorem hops6_at {P : Program} {ops : Array Oper} {T : List Fact} {W : World} {a0 : Act} {touch : List (Nat × Nat)} : ∀ {l : List Oper} {k i : Nat} {o : Oper}, hops6 P ops T W a0 touch l k → l[i]? = some o → hop6 P ops T W a0 touch o (k + i)
  | [], _, _, _, _, h => by simp at h
  | x :: l, k, 0, o, h, hi => by simp at hi; subst hi; exact h.1
  | x :: l, k, i + 1, o, h, hi => by
    simp at hi
    have := hops6_at (k := k + 1) (i := i) h.2 hi
    rwa [show k + 1 + i = k + (i + 1) by omega] at this
structure GInv6 (ops : Array Oper) (T : List Fact) (W : World) (a0 : Act) (touch : List (Nat × Nat)) (listed : Array Bool) (a : Act) (w : World) : Prop where
  g : Chg (fun b => ∃ s, (s, b) ∈ touch) W w
  pre : ∀ b, b < W.heap.size → (∀ s, (s, b) ∈ touch → listed.getD s false = false) → w.heap[b]? = W.heap[b]?
  old : ∀ i o d, ops[i]? = some o → o.dst = some d → listed.getD i false = false → a.tmps.getD d undef = a0.tmps.getD d undef
  sz : listed.size = ops.size
  tz : a.tmps.size = a0.tmps.size
  df : a.defers = a0.defers
  out : ∀ t, t ∉ dsts ops → a.tmps[t]? = a0.tmps[t]?
  facts : ∀ k o, ops[k]? = some o → listed.getD k false = true → (fAt T k).at_ (fun d => a.tmps.getD d undef) w
  closed : ∀ k o, ops[k]? = some o → listed.getD k false = true → ∀ e ∈ bindE o, listed.getD e.on false = true
section
variable {P : Program} {ops : Array Oper} {T : List Fact} {W : World} {a0 : Act} {touch : List (Nat × Nat)} {Q : Exit → Act → World → Prop}
theorem GInv6.step {listed : Array Bool} {a : Act} {w : World} (K : RegOk ops T) (hsz : ∀ d ∈ dsts ops, d < a0.tmps.size) (hst : stablesF T) (h : GInv6 ops T W a0 touch listed a w) {i : Nat} {o : Oper} (hi : ops[i]? = some o)
    (hun : listed.getD i false = false) (hwait : ∀ e ∈ bindE o, listed.getD e.on false = true) {v : Value} {w' : World} (hv : (fAt T i).at_ (upd (fun d => a.tmps.getD d undef) o.dst v) w')
    (hg : w.grownBy w' none ∨ (Chg (fun b => W.heap.size ≤ b ∨ (i, b) ∈ touch) w w' ∧ keeps (fun d => a.tmps.getD d undef) w w' i T 0)) : GInv6 ops T W a0 touch (listed.setIfInBounds i true) (a.put o.dst v) w' := by
  have hdlt : ∀ d, o.dst = some d → d < a.tmps.size := fun d hd => by rw [h.tz]; exact hsz d (dst_mem hi hd)
  have hil : i < listed.size := by rw [h.sz]; exact (Array.getElem?_eq_some_iff.1 hi).1
  have lset : ∀ k, k ≠ i → (listed.setIfInBounds i true).getD k false = listed.getD k false := fun k hk => by
    simp only [Array.getD_eq_getD_getElem?, Array.getElem?_setIfInBounds, Ne.symm hk, if_false]
  have lold : ∀ k, listed.getD k false = true → (listed.setIfInBounds i true).getD k false = true := fun k hk => by
    by_cases e : k = i
    · subst e; simp [hil]
    · rw [lset k e]; exact hk
  have hf : (fun d => (a.put o.dst v).tmps.getD d undef) = upd (fun d => a.tmps.getD d undef) o.dst v := by
    funext t; exact put_get a o.dst v t hdlt
  refine ⟨?_, fun b hbW hs => ?_, fun j oj d hj hd hl => ?_, by simp [h.sz], ?_, ?_, fun t ht => ?_, fun k ok hk hl => ?_, fun k ok hk hl e he => ?_⟩
  · rcases hg with hg | ⟨hg, _⟩
    · exact h.g.trans (Chg.of hg fun g hg' => by simp at hg')
    · refine ⟨hg.os.trans h.g.os, hg.tape.trans h.g.tape, hg.output.trans h.g.output, Nat.le_trans h.g.size hg.size, fun b hb hs => ?_⟩
      rw [hg.block b (Nat.lt_of_lt_of_le hb h.g.size) fun hs' => ?_, h.g.block b hb hs]
      rcases hs' with h1 | h1
      · omega
      · exact hs ⟨i, h1⟩
  · have hb' : ∀ s, (s, b) ∈ touch → listed.getD s false = false := fun s hs' => by
      have h1 := hs s hs'
      cases hl : listed.getD s false with
      | false => rfl
      | true => rw [lold s hl] at h1; cases h1
    have hib : (i, b) ∉ touch := fun hi' => by have h1 := hs i hi'; simp [hil] at h1
    have h0 := h.pre b hbW hb'
    have hbw : b < w.heap.size := Nat.lt_of_lt_of_le hbW h.g.size
    rcases hg with hg | ⟨hg, _⟩
    · exact (hg.block b hbw (by simp)).trans h0
    · refine (hg.block b hbw fun hs' => ?_).trans h0
      rcases hs' with h1 | h1
      · omega
      · exact hib h1
  · have hji : j ≠ i := fun e => by subst e; simp [hil] at hl
    rw [lset j hji] at hl
    have hne : o.dst ≠ some d := fun hd' => nodup_ne K.nodup (l := ops.toList) (i := j) (j := i) (by simpa using hj) (by simpa using hi) hji hd hd'
    have h9 : (a.put o.dst v).tmps.getD d undef = upd (fun d => a.tmps.getD d undef) o.dst v d := congrFun hf d
    rw [h9, upd_get _ _ _ _ hne]
    exact h.old j oj d hj hd hl
  · rw [← h.tz]; cases o.dst <;> simp [Act.put]
  · rw [← h.df]; cases o.dst <;> rfl
  · rw [← h.out t ht]
    cases hd : o.dst with
    | none => rfl
    | some d =>
      have : d ≠ t := fun e => ht (e ▸ dst_mem hi hd)
      simp [Act.put, this]
  · rw [hf]
    by_cases hik : k = i
    · subst hik
      exact hv
    · rw [lset k hik] at hl
      have hold := h.facts k ok hk hl
      have hne : ∀ t ∈ (fAt T k).ts, o.dst ≠ some t := fun t ht hd => by
        rcases K.sup k ok hk t ht with h1 | ⟨e, he, o', ho', hd'⟩
        · exact nodup_ne K.nodup (l := ops.toList) (i := k) (j := i) (by simpa using hk) (by simpa using hi) hik h1 hd
        · have h2 := h.closed k ok hk hl e he
          have h3 : e.on ≠ i := fun x => by rw [x, hun] at h2; cases h2
          exact nodup_ne K.nodup (l := ops.toList) (i := e.on) (j := i) (by simpa using ho') (by simpa using hi) h3 hd' hd
      have hmap : (fAt T k).ts.map (upd (fun d => a.tmps.getD d undef) o.dst v) = (fAt T k).ts.map (fun d => a.tmps.getD d undef) := List.map_congr_left fun t ht => upd_get _ _ _ _ (hne t ht)
      unfold Fact.at_
      rw [hmap]
      rcases hg with hg | ⟨_, hk2⟩
      · exact stableF_at hst k _ _ _ hold hg
      · cases hT : T[k]? with
        | none => unfold fAt; rw [hT]; trivial
        | some F =>
          have e : fAt T k = F := by unfold fAt; rw [hT]; rfl
          rw [e] at hold ⊢
          exact keeps_at hk2 hT (by omega) hold
  · by_cases hik : k = i
    · subst hik
      obtain rfl : ok = o := by rw [hi] at hk; injection hk with hk; exact hk.symm
      exact lold _ (hwait e he)
    · rw [lset k hik] at hl
      exact lold _ (h.closed k ok hk hl e he)
theorem GInv6.is {listed : Array Bool} {a : Act} {w : World} (h : GInv6 ops T W a0 touch listed a w) : a = puts a0 (dsts ops) (fun d => a.tmps.getD d undef) := puts_is h.tz h.df h.out
theorem GInv6.old_ {listed : Array Bool} {a : Act} {w : World} (h : GInv6 ops T W a0 touch listed a w) {k d : Nat} (hk : listed.getD k false = false) (ho : oldB ops k d = true) (hd : d ∈ dsts ops) : a.tmps.getD d undef = a0.tmps.getD d undef := by
  unfold dsts at hd
  obtain ⟨o, ho', hd'⟩ := List.mem_filterMap.1 hd
  obtain ⟨i, hi⟩ := List.mem_iff_getElem?.1 ho'
  have hi' : ops[i]? = some o := by simpa using hi
  refine h.old i o d hi' hd' (ahead_un h.closed hk ?_)
  have := List.all_eq_true.1 ho (o, i) (by rw [List.mem_zipIdx_iff_getElem?]; simpa using hi')
  simpa [hd'] using this
theorem reg6_any (K : RegOk ops T) (hsz : ∀ d ∈ dsts ops, d < a0.tmps.size) (hst : stablesF T) (hh : hops6 P ops T W a0 touch ops.toList 0)
    (fin : ∀ (f : Tmp → Value) (w : World), Chg (fun b => ∃ s, (s, b) ∈ touch) W w → knowsF T f w T → Q .normal (puts a0 (dsts ops) f) w) :
    ∀ (fuel : Nat) (listed : Array Bool) (a : Act) (w : World), GInv6 ops T W a0 touch listed a w → listed.toList.countP (fun b => !b) ≤ fuel → wpAny P .any ops Q fuel listed a w := by
  have done : ∀ (listed : Array Bool) (a : Act) (w : World), GInv6 ops T W a0 touch listed a w → Region.ready .any ops listed = [] → Q .normal a w := fun listed a w h hr => by
    rw [h.is]
    refine fin _ w h.g (knowsF_of fun F hF => ?_)
    obtain ⟨k, hk⟩ := List.mem_iff_getElem?.1 hF
    have hkl : k < ops.size := Nat.lt_of_lt_of_le (List.getElem?_eq_some_iff.1 hk).1 K.len
    have := h.facts k ops[k] (Array.getElem?_eq_getElem hkl) (all_listedF K h.sz hr (k + 1) k (by omega) hkl)
    unfold fAt at this
    rw [hk] at this
    exact this
  intro fuel
  induction fuel with
  | zero =>
    intro listed a w h hc
    have hr : Region.ready .any ops listed = [] := by
      cases hr : Region.ready .any ops listed with
      | nil => rfl
      | cons i l =>
        exfalso
        have hi := (mem_ready.1 (show i ∈ Region.ready .any ops listed by rw [hr]; exact List.mem_cons_self ..)).1
        have h0 : listed.toList.countP (fun b => !b) = 0 := by omega
        rw [List.countP_eq_zero] at h0
        have hlt : i < listed.size := by
          rcases Nat.lt_or_ge i listed.size with h1 | h1
          · exact h1
          · simp [Array.getElem?_eq_none h1] at hi
        have hv : listed[i] = false := by simpa [hlt] using hi
        have := h0 listed[i] (Array.getElem_mem_toList hlt)
        simp [hv] at this
    exact ⟨hr, done listed a w h hr⟩
  | succ fuel ih =>
    intro listed a w h hc
    refine ⟨fun hr => done listed a w h hr, fun i hi => ?_⟩
    obtain ⟨hl, o, ho, hall⟩ := mem_ready.1 hi
    have hwait : ∀ e ∈ bindE o, listed.getD e.on false = true := fun e he => by
      obtain ⟨h1, h2⟩ := bind_mem.1 he
      exact hall e (by simpa using h1) h2
    have hun : listed.getD i false = false := by
      have hlt : i < listed.size := by rw [h.sz]; exact (Array.getElem?_eq_some_iff.1 ho).1
      simp [hlt] at hl ⊢
      exact hl
    have hop := hops6_at hh (i := i) (by simpa using ho)
    rw [Nat.zero_add] at hop
    have h1 := hop (fun d => a.tmps.getD d undef) w h.g (fun b hb hs => h.pre b hb fun s hs' => ahead_un h.closed hun (hs s hs')) (fun d hd hm => h.old_ hun hd hm) (depsF_of fun e he => by
      have h2 := hwait e he
      have h3 := K.early i o ho e he
      have h4 : e.on < ops.size := by have := (Array.getElem?_eq_some_iff.1 ho).1; omega
      exact h.facts e.on _ (Array.getElem?_eq_getElem h4) h2)
    rw [← h.is] at h1
    unfold wpOp
    simp only [ho]
    have next : ∀ a' w', (∃ v, a' = a.put o.dst v ∧ (fAt T i).at_ (upd (fun d => a.tmps.getD d undef) o.dst v) w' ∧ (w.grownBy w' none ∨ (Chg (fun b => W.heap.size ≤ b ∨ (i, b) ∈ touch) w w' ∧ keeps (fun d => a.tmps.getD d undef) w w' i T 0))) → wpAny P .any ops Q fuel (listed.setIfInBounds i true) a' w' := fun a' w' ⟨v, ha, hv, hg⟩ => by
      subst ha
      exact ih _ _ _ (h.step K hsz hst ho hun hwait hv hg) (few_set hc hl)
    unfold wpList at h1
    split
    · rename_i hw
      rw [if_pos hw] at h1
      rcases h1 with h1 | h1
      · exact .inl (wp_only (Oper.wp_mono next h1))
      · exact (only_no h1.2).elim
    · rename_i hw
      rw [if_neg hw] at h1
      exact next _ _ h1
theorem region_reg6 {id : Nat} {w : World} (T : List Fact) (touch : List (Nat × Nat)) (hm : P.follows .mixedOrders = true) (hB : regB ops (T.map (·.ts)) = true) (hsz : (dsts ops).all (fun d => d < a0.tmps.size) = true) (hst : stablesF T)
    (hh : hops6 P ops T w.drew a0 touch ops.toList 0)
    (fin : ∀ (f : Tmp → Value) (w' : World), Chg (fun b => ∃ s, (s, b) ∈ touch) w.drew w' → knowsF T f w' T → Q .normal (puts a0 (dsts ops) f) w') : (Code.region id ops true).wp P Q a0 w := by
  refine wp_region_any hm (reg6_any (W := w.drew) (T := T) (RegOk.of hB) (fun d hd => by simpa using List.all_eq_true.1 hsz d hd) hst hh fin ops.size _ a0 _ ⟨Chg.refl _ _, fun _ _ _ => rfl, fun _ _ _ _ _ _ => rfl, by simp, rfl, rfl, fun _ _ => rfl, ?_, ?_⟩ ?_)
  · intro k o hk hl
    simp only [Array.getD_eq_getD_getElem?, Array.getElem?_replicate] at hl
    split at hl <;> simp at hl
  · intro k o hk hl
    simp only [Array.getD_eq_getD_getElem?, Array.getElem?_replicate] at hl
    split at hl <;> simp at hl
  · have := List.countP_le_length (p := fun b : Bool => !b) (l := (Array.replicate ops.size false).toList)
    simpa using this
end
end Go.Proofs.Ythaadgdeadbhkaa
