/-
  copyKeys, copyArith of the program.
-/
import Derived.Test.YthaadgdeadbhkaaMgFnCosts17
import Derived.Test.YthaadgdeadbhkaaMgFnCosts19
import Derived.Test.YthaadgdeadbhkaaMgFnCosts12
import Derived.Test.YthaadgdeadbhkaaMgFnCosts13
import Derived.Test.YthaadgdeadbhkaaMgFnCosts6
namespace Go.Proofs.Ythaadgdeadbhkaa
open Go.RowKit
set_option linter.unusedVariables false
set_option linter.unusedSimpArgs false
end Go.Proofs.Ythaadgdeadbhkaa
/-
  copyArith of the program.
-/
namespace Go.Proofs.Ythaadgdeadbhkaa
open Go.RowKit
set_option linter.unusedVariables false
set_option linter.unusedSimpArgs false
structure amwf (m : AM) : Prop where
  wf : m.wf
  st : m.st.length ≤ 1048576
  outs : m.outs.length ≤ 1048576
end Go.Proofs.Ythaadgdeadbhkaa
/-
  Authenticated values that are shares of a value: sums, products by constants, triples, openings. No program.
-/
namespace Go.Proofs.Ythaadgdeadbhkaa
set_option linter.unusedVariables false
set_option linter.unusedSimpArgs false
theorem em1 (p a : Int) : a % p % p = a % p := Int.emod_emod_of_dvd _ (Int.dvd_refl p)
theorem mm1 (p a b : Int) : (a % p * b) % p = (a * b) % p := by rw [Int.mul_emod, em1, ← Int.mul_emod]
theorem addS_sum (p : Int) : ∀ xs ys : List Int, xs.length = ys.length → fsum p (addS p xs ys) = (fsum p xs + fsum p ys) % p
  | [], [], _ => by simp [addS, fsum]
  | [], _ :: _, h => by simp at h
  | _ :: _, [], h => by simp at h
  | x :: xs, y :: ys, h => by
    have ih := addS_sum p xs ys (by simpa using h)
    unfold fsum addS at *
    simp only [List.zipWith_cons_cons, List.sum_cons]
    rw [Int.emod_add_emod, ← Int.add_emod_emod, ih, Int.add_emod_emod, Int.emod_add_emod, Int.add_emod_emod, ← Int.add_assoc, Int.add_emod_emod, ← Int.add_assoc]
    rw [show x + y + xs.sum % p + ys.sum = xs.sum % p + (x + y + ys.sum) by omega, Int.emod_add_emod]
    congr 1; omega
theorem sclS_sum (p k : Int) : ∀ xs : List Int, fsum p (sclS p xs k) = (fsum p xs * k) % p
  | [] => by simp [sclS, fsum]
  | x :: xs => by
    have ih := sclS_sum p k xs
    unfold fsum sclS at *
    simp only [List.map_cons, List.sum_cons]
    rw [Int.emod_add_emod, ← Int.add_emod_emod, ih, Int.add_emod_emod, mm1, ← Int.add_emod_emod, mm1, Int.add_emod_emod, Int.add_mul]
theorem cstS_sum (p k : Int) (xs : List Int) (h : 1 ≤ xs.length) : fsum p (cstS p xs k) = (fsum p xs + k) % p := by
  cases xs with
  | nil => simp at h
  | cons x xs =>
    unfold fsum cstS
    simp only [List.set_cons_zero, List.sum_cons, List.getD_cons_zero]
    rw [Int.emod_add_emod, Int.emod_add_emod]
    congr 1; omega
theorem md_iff {p a b : Int} : a % p = b % p ↔ ∃ k, a = b + p * k := by
  constructor
  · intro h
    refine ⟨a / p - b / p, ?_⟩
    have h1 := Int.mul_ediv_add_emod a p
    have h2 := Int.mul_ediv_add_emod b p
    rw [Int.mul_sub]
    omega
  · rintro ⟨k, rfl⟩
    rw [Int.add_mul_emod_self_left]
theorem md_ex (p a : Int) : ∃ k, a % p = a + p * k := ⟨-(a / p), by have := Int.mul_ediv_add_emod a p; rw [Int.mul_neg]; omega⟩
theorem use_eq (p A B a b c d e : Int) (hd : d = (A - a) % p) (he : e = (B - b) % p) (hc : c = (a * b) % p) : ((((c + (b * d) % p) % p + (a * e) % p) % p) + (d * e) % p) % p = (A * B) % p := by
  obtain ⟨k1, h1⟩ := md_ex p (A - a)
  obtain ⟨k2, h2⟩ := md_ex p (B - b)
  obtain ⟨k3, h3⟩ := md_ex p (a * b)
  simp only [Int.add_emod_emod, Int.emod_add_emod]
  rw [md_iff, hd, he, hc, h1, h2, h3]
  exact ⟨k3 + b * k1 + a * k2 + (A - a) * k2 + (B - b) * k1 + p * k1 * k2, by grind⟩
theorem mac_add (p u v x : Int) : ((u * x) % p + (v * x) % p) % p = ((u + v) % p * x) % p := by
  rw [mm1, Int.emod_add_emod, Int.add_emod_emod, Int.add_mul]
theorem mac_scale (p u x c : Int) : ((u * x) % p * c) % p = ((u * c) % p * x) % p := by
  rw [mm1, mm1, Int.mul_assoc, Int.mul_comm x c, ← Int.mul_assoc]
theorem mac_const (p u x c : Int) : ((u * x) % p + (x * c) % p) % p = ((u + c) % p * x) % p := by
  rw [Int.mul_comm x c, mac_add]
theorem open_eq (p u v x : Int) : ((u * x) % p + ((v * x) % p * (p - 1)) % p) % p = (((u - v) % p) * x) % p := by
  obtain ⟨k1, h1⟩ := md_ex p (u * x)
  obtain ⟨k2, h2⟩ := md_ex p (v * x)
  obtain ⟨k3, h3⟩ := md_ex p (u - v)
  simp only [Int.add_emod_emod, Int.emod_add_emod]
  rw [md_iff, h2, h3]
  exact ⟨v * x + k2 * (p - 1) - k3 * x, by grind⟩
def cancelB (n : Nat) : Bool := (List.range n).all fun e => (List.range n).all fun x => x == 0 || (e * x) % n != 0 || e == 0
theorem prime_cancel : ∀ n : Nat, n < 102 → fieldN n = true → cancelB n = true := by decide +kernel
theorem cancel_nat {n e x : Nat} (hn : n < 102) (hf : fieldN n = true) (he : e < n) (hx : x < n) (h0 : x ≠ 0) (h : (e * x) % n = 0) : e = 0 := by
  have h1 := prime_cancel n hn hf
  unfold cancelB at h1
  rw [List.all_eq_true] at h1
  have h2 := h1 e (List.mem_range.2 he)
  rw [List.all_eq_true] at h2
  have h3 := h2 x (List.mem_range.2 hx)
  simp [h0, h] at h3
  exact h3
theorem cancel_int {p e x : Int} (hf : fieldB p = true) (he : 0 ≤ e ∧ e < p) (hx : 0 ≤ x ∧ x < p) (h0 : x ≠ 0) (h : (e * x) % p = 0) : e = 0 := by
  obtain ⟨h2, h3⟩ := field_range hf
  obtain ⟨n, rfl⟩ := Int.eq_ofNat_of_zero_le (show 0 ≤ p by omega)
  obtain ⟨a, rfl⟩ := Int.eq_ofNat_of_zero_le he.1
  obtain ⟨b, rfl⟩ := Int.eq_ofNat_of_zero_le hx.1
  have h1 : (a * b) % n = 0 := by
    have : (((a * b) % n : Nat) : Int) = ((0 : Nat) : Int) := by rw [Int.natCast_emod, Int.natCast_mul]; exact h
    exact Int.ofNat.inj this
  rw [fieldB_nat n (by omega)] at hf
  have := cancel_nat (n := n) (e := a) (x := b) (by omega) hf (by omega) (by omega) (by omega) h1
  omega
structure Good (k : KM) (a : AuM) (v : Int) : Prop where
  form : formB k a = true
  sh : fsum k.p a.sh = v
  mc : fsum k.p a.mc = (v * fsum k.p k.al) % k.p
theorem form_mk {k : KM} {a : AuM} (h : keysB k = true) (h1 : a.sh.length = k.al.length) (h2 : a.mc.length = k.al.length) (h3 : elemsB k.p a.sh = true) (h4 : elemsB k.p a.mc = true) : formB k a = true := by
  unfold formB formA
  rw [h, h1, h2, h3, h4]
  simp
theorem Good.rng {k : KM} {a : AuM} {v : Int} (h : Good k a v) : 0 ≤ v ∧ v < k.p := by
  obtain ⟨hk, _⟩ := form_is h.form
  obtain ⟨hf, _⟩ := keys_is hk
  have := fsum_rng (field_range hf).1 a.sh
  rw [h.sh] at this
  exact this
theorem form_add {k : KM} {a b : AuM} (ha : formB k a = true) (hb : formB k b = true) : authAdd k a b = ⟨addS k.p a.sh b.sh, addS k.p a.mc b.mc⟩ ∧ formB k (authAdd k a b) = true := by
  obtain ⟨hk, a1, a2, a3, a4, a5, a6, a7⟩ := form_is ha
  obtain ⟨_, b1, b2, b3, b4, _⟩ := form_is hb
  obtain ⟨hf, _⟩ := keys_is hk
  have e : authAdd k a b = ⟨addS k.p a.sh b.sh, addS k.p a.mc b.mc⟩ := by unfold authAdd; rw [ha, hb]; rfl
  refine ⟨e, ?_⟩
  rw [e]
  exact form_mk hk (by rw [addS_len (by omega)]; exact a1) (by rw [addS_len (by omega)]; exact a2) (addS_elems hf) (addS_elems hf)
theorem Good.add {k : KM} {a b : AuM} {u v : Int} (ha : Good k a u) (hb : Good k b v) : Good k (authAdd k a b) ((u + v) % k.p) := by
  obtain ⟨hk, a1, a2, a3, a4, a5, a6, a7⟩ := form_is ha.form
  obtain ⟨_, b1, b2, b3, b4, _⟩ := form_is hb.form
  obtain ⟨e, f⟩ := form_add ha.form hb.form
  refine ⟨f, ?_, ?_⟩
  · rw [e, addS_sum _ _ _ (by omega), ha.sh, hb.sh]
  · rw [e, addS_sum _ _ _ (by omega), ha.mc, hb.mc, mac_add]
theorem form_scale {k : KM} {a : AuM} {c : Int} (ha : formB k a = true) (hc : elemB k.p c = true) : authScale k a c = ⟨sclS k.p a.sh c, sclS k.p a.mc c⟩ ∧ formB k (authScale k a c) = true := by
  obtain ⟨hk, a1, a2, a3, a4, a5, a6, a7⟩ := form_is ha
  have e : authScale k a c = ⟨sclS k.p a.sh c, sclS k.p a.mc c⟩ := by unfold authScale; rw [ha, hc]; rfl
  refine ⟨e, ?_⟩
  rw [e]
  exact form_mk hk (by rw [sclS_len]; exact a1) (by rw [sclS_len]; exact a2) (sclS_elems a3) (sclS_elems a4)
theorem Good.scale {k : KM} {a : AuM} {u c : Int} (ha : Good k a u) (hc : elemB k.p c = true) : Good k (authScale k a c) ((u * c) % k.p) := by
  obtain ⟨e, f⟩ := form_scale ha.form hc
  refine ⟨f, ?_, ?_⟩
  · rw [e, sclS_sum, ha.sh]
  · rw [e, sclS_sum, ha.mc, mac_scale]
theorem form_const {k : KM} {a : AuM} {c : Int} (ha : formB k a = true) (hc : elemB k.p c = true) : authConst k a c = ⟨cstS k.p a.sh c, addS k.p a.mc (sclS k.p k.al c)⟩ ∧ formB k (authConst k a c) = true := by
  obtain ⟨hk, a1, a2, a3, a4, a5, a6, a7⟩ := form_is ha
  obtain ⟨hf, _⟩ := keys_is hk
  have e : authConst k a c = ⟨cstS k.p a.sh c, addS k.p a.mc (sclS k.p k.al c)⟩ := by unfold authConst; rw [ha, hc]; rfl
  refine ⟨e, ?_⟩
  rw [e]
  exact form_mk hk (by rw [cstS_len]; exact a1) (by rw [addS_len (by rw [sclS_len]; omega)]; exact a2) (cstS_elems a3) (addS_elems hf)
theorem Good.const {k : KM} {a : AuM} {u c : Int} (ha : Good k a u) (hc : elemB k.p c = true) : Good k (authConst k a c) ((u + c) % k.p) := by
  obtain ⟨hk, a1, a2, a3, a4, a5, a6, a7⟩ := form_is ha.form
  obtain ⟨e, f⟩ := form_const ha.form hc
  refine ⟨f, ?_, ?_⟩
  · rw [e, cstS_sum _ _ _ (by omega), ha.sh]
  · rw [e, addS_sum _ _ _ (by rw [sclS_len]; omega), sclS_sum, ha.mc, mac_const]
theorem Good.new {k : KM} {P s a : Nat} {x : Int} (hk : keysB k = true) (hP : k.p = P) (hx : elemB k.p x = true) : Good k (authNew k P s a x) x := by
  obtain ⟨hf, he, n1, n5⟩ := keys_is hk
  obtain ⟨_, p2, p101, x0, x1⟩ := elemB_is hx
  have hT : ∀ a k', elemsB k.p (tapeL s a P k') = true := fun a k' => by rw [hP] at hf ⊢; exact elems_tape hf (by omega)
  have hl : ∀ (y : Int) (a : Nat), (shareL k.p y (tapeL s a P (k.al.length - 1))).length = k.al.length := fun y a => by rw [shareL_len, tapeL_len]; omega
  have hy : 0 ≤ (x * fsum k.p k.al) % k.p ∧ (x * fsum k.p k.al) % k.p < k.p := ⟨Int.emod_nonneg _ (by omega), Int.emod_lt_of_pos _ (by omega)⟩
  unfold authNew
  exact ⟨form_mk hk (hl _ _) (hl _ _) (shareL_elems (hT _ _)) (shareL_elems (hT _ _)), shareL_sum x0 x1, shareL_sum hy.1 hy.2⟩
theorem zero_sum (p : Int) (n : Nat) : fsum p (List.replicate n 0) = 0 := by
  have : (List.replicate n (0 : Int)).sum = 0 := by
    induction n with
    | zero => rfl
    | succ n ih => rw [List.replicate_succ, List.sum_cons, ih]; rfl
  unfold fsum
  rw [this, Int.zero_emod]
def zerosA (n : Nat) : AuM := ⟨List.replicate n 0, List.replicate n 0⟩
theorem Good.zeros {k : KM} (hk : keysB k = true) : Good k (zerosA k.al.length) 0 := by
  obtain ⟨hf, he, n1, n5⟩ := keys_is hk
  obtain ⟨p2, p101⟩ := field_range hf
  have hz : elemsB k.p (List.replicate k.al.length 0) = true := elemsB_mk hf fun z hz => by rw [List.eq_of_mem_replicate hz]; omega
  exact ⟨form_mk hk (by simp [zerosA]) (by simp [zerosA]) hz hz, zero_sum _ _, by rw [Int.zero_mul, Int.zero_emod]; exact zero_sum _ _⟩
theorem fsum_form {k : KM} {a : AuM} (h : formB k a = true) : elemB k.p (fsum k.p a.sh) = true := by
  obtain ⟨hk, _⟩ := form_is h
  exact fsum_elem (keys_is hk).1 _
theorem Good.elem {k : KM} {a : AuM} {v : Int} (h : Good k a v) : elemB k.p v = true := by rw [← h.sh]; exact fsum_form h.form
structure GoodT (k : KM) (x : TrM) (u v : Int) : Prop where
  a : Good k x.a u
  b : Good k x.b v
  c : Good k x.c ((u * v) % k.p)
theorem form_use {k : KM} {x : TrM} {d e : Int} (ha : formB k x.a = true) (hb : formB k x.b = true) (hc : formB k x.c = true) (hd : elemB k.p d = true) (he : elemB k.p e = true) :
    tripleUse k x d e = authConst k (authAdd k (authAdd k x.c (authScale k x.b d)) (authScale k x.a e)) ((d * e) % k.p) ∧ formB k (tripleUse k x d e) = true := by
  have hf := (elemB_is hd).1
  have e1 : tripleUse k x d e = authConst k (authAdd k (authAdd k x.c (authScale k x.b d)) (authScale k x.a e)) ((d * e) % k.p) := by unfold tripleUse; rw [ha, hb, hc, hd, he]; rfl
  refine ⟨e1, ?_⟩
  rw [e1]
  exact (form_const (form_add (form_add hc (form_scale hb hd).2).2 (form_scale ha he).2).2 (femod_elem hf _)).2
theorem GoodT.use {k : KM} {x : TrM} {u v A B d e : Int} (h : GoodT k x u v) (hA : 0 ≤ A ∧ A < k.p) (hB : 0 ≤ B ∧ B < k.p) (hd : d = (A - u) % k.p) (he : e = (B - v) % k.p) : Good k (tripleUse k x d e) ((A * B) % k.p) := by
  obtain ⟨hk, _⟩ := form_is h.a.form
  obtain ⟨hf, _⟩ := keys_is hk
  have hd1 : elemB k.p d = true := by rw [hd]; exact femod_elem hf _
  have he1 : elemB k.p e = true := by rw [he]; exact femod_elem hf _
  rw [(form_use h.a.form h.b.form h.c.form hd1 he1).1]
  have := ((h.c.add (h.b.scale hd1)).add (h.a.scale he1)).const (femod_elem hf (d * e))
  rw [use_eq k.p A B u v _ d e hd he rfl] at this
  exact this
theorem GoodT.new {k : KM} {P s a : Nat} (hk : keysB k = true) (hP : k.p = P) : GoodT k (tripleNew k P s a) (tnA s a P) (tnB s a P) := by
  obtain ⟨hf, _⟩ := keys_is hk
  obtain ⟨p2, p101⟩ := field_range hf
  have h1 : ∀ a, elemB k.p ((belN s a P : Nat) : Int) = true := fun a => elemB_mk hf (by omega) (by have := belN_lt (s := s) (a := a) (n := P) (by omega); omega)
  unfold tripleNew
  exact ⟨Good.new hk hP (h1 _), Good.new hk hP (h1 _), Good.new hk hP (femod_elem hf _)⟩
theorem Good.minus {k : KM} {a b : AuM} {u v : Int} (ha : Good k a u) (hb : Good k b v) (o : Int) (ho : elemB k.p o = true) :
    macCheck k o (minusA k a b) = ((((u - v) % k.p) * fsum k.p k.al) % k.p == (o * fsum k.p k.al) % k.p) := by
  obtain ⟨hk, _⟩ := form_is ha.form
  obtain ⟨hf, _⟩ := keys_is hk
  obtain ⟨p2, p101⟩ := field_range hf
  have hp : elemB k.p (k.p - 1) = true := elemB_mk hf (by omega) (by omega)
  obtain ⟨e1, f1⟩ := form_scale hb.form hp
  obtain ⟨e2, f2⟩ := form_add ha.form f1
  obtain ⟨_, _, a2, _, a4, _⟩ := form_is f2
  obtain ⟨_, c1, c2, _⟩ := form_is ha.form
  obtain ⟨_, d1, d2, _⟩ := form_is f1
  have hm : fsum k.p (minusA k a b).mc = (((u - v) % k.p) * fsum k.p k.al) % k.p := by
    unfold minusA
    rw [e2, addS_sum _ _ _ (by omega), e1, sclS_sum, ha.mc, hb.mc, open_eq]
  unfold macCheck
  rw [hk, ho, hm]
  unfold minusA
  rw [a2, a4]
  simp
theorem Good.check {k : KM} {a : AuM} {u : Int} (ha : Good k a u) (o : Int) (ho : elemB k.p o = true) : macCheck k o a = ((u * fsum k.p k.al) % k.p == (o * fsum k.p k.al) % k.p) := by
  obtain ⟨hk, _, a2, _, a4, _⟩ := form_is ha.form
  unfold macCheck
  rw [hk, ho, ha.mc, a2, a4]
  simp
theorem wrong_caught {p d e x : Int} (hf : fieldB p = true) (hx : 0 ≤ x ∧ x < p) (h0 : x ≠ 0) (h : ((d % p) * x) % p = ((d % p + e) % p * x) % p) (he : 0 ≤ e ∧ e < p) : e = 0 := by
  have h1 : (e * x) % p = 0 := by
    rw [mm1, mm1, Int.add_mul] at h
    obtain ⟨k, hk⟩ := md_iff.1 h
    have h3 : e * x = p * (-k + (d / p) * x) := by
      have := Int.mul_ediv_add_emod d p
      grind
    rw [h3, Int.mul_emod_right]
  exact cancel_int hf he hx h0 h1
end Go.Proofs.Ythaadgdeadbhkaa
/-
  RoundsOf, MulsAt, ArithCost, UsedErrors: reference and program.
-/
namespace Go.Proofs.Ythaadgdeadbhkaa
open Go.RowKit
set_option linter.unusedVariables false
set_option linter.unusedSimpArgs false
def maxTo (l : List Int) : Nat → Int
  | 0 => 0
  | k + 1 => max (maxTo l k) (l.getD k 0)
noncomputable def rounds (m : AM) : Int := maxTo (mdepth m) (mdepth m).length
theorem mdepth_bd (m : AM) : ∀ d ∈ mdepth m, 0 ≤ d ∧ d ≤ 60 := by
  by_cases h : AOk m
  · rw [mdepth_yes h]
    intro d hd
    have := depsS_bd' m _ d hd
    have := h.few
    omega
  · rw [mdepth_no h]; simp
theorem maxTo_bd (m : AM) : ∀ k, 0 ≤ maxTo (mdepth m) k ∧ maxTo (mdepth m) k ≤ 60
  | 0 => by simp [maxTo]
  | k + 1 => by
    have ih := maxTo_bd m k
    have h : 0 ≤ (mdepth m).getD k 0 ∧ (mdepth m).getD k 0 ≤ 60 := by
      rcases Nat.lt_or_ge k (mdepth m).length with hk | hk
      · rw [getI _ _ hk]; exact mdepth_bd m _ (List.getElem_mem hk)
      · rw [List.getD_eq_getElem?_getD, List.getElem?_eq_none hk]; simp
    rw [maxTo]; omega
theorem rounds_bd (m : AM) : 0 ≤ rounds m ∧ rounds m ≤ 60 := maxTo_bd m _
set_option maxHeartbeats 1000000 in
theorem specRoundsOf_c (m : AM) (v : Value) (w : World) (h : AggR w (carith m) v) (wf : m.wf) :
    Calls Try.prog 12 #[v] w fun e w' => e = .returned (.int .i64 (rounds m)) ∧ w.grownBy w' none := by
  have HV := Lib.hid h
  obtain ⟨u1, u2, rfl, h1, h2⟩ := carith_open h
  have HW := Lib.hid wf
  clear h h1 h2 wf
  go_enter Try.func12, Try.ntmps12
  go_wp2_with fail
  refine (specMulDepth_c m _ _ (AggR.grow HV.out (gbA (gbR w none) _)) HW.out).mono ?_
  rintro e w1 ⟨V, rfl, o1, g⟩
  have G := Lib.hid (gbT (gbA (gbR w none) _) g)
  obtain ⟨S, sc, rfl, _, hml⟩ := own_form o1
  have HI := Lib.hid (show Ints w1 S (mdepth m).length (mdepth m) from Rd.ofOwn o1)
  have HB := Lib.hid (fun k => maxTo_bd m k)
  have HR : Hid (rounds m = maxTo (mdepth m) (mdepth m).length) := rfl
  have h60 := mdepth_few m
  clear g o1
  generalize mdepth m = l at *
  generalize hln : l.length = n at *
  clear hln
  go_wp2_with fail
  go_loop [3, 5] (fun s i => ∃ k : Nat, k ≤ n ∧ i = .int .i64 k ∧ s = .int .i64 (maxTo l k)) (fun _ i => n - (intOf i).toNat)
  case atStart => exact ⟨0, Nat.zero_le _, rfl, rfl⟩
  case round =>
    obtain ⟨k, hk, rfl, rfl⟩ := hrel
    by_cases hlt : k < n
    · obtain ⟨b, o, rfl, hb, q0⟩ := Ints.cell HI.out hlt
      have i1 : (k : Int) < (n : Int) := by omega
      have HS : Hid (maxTo l (k + 1) = max (maxTo l k) (l.getD k 0)) := rfl
      generalize maxTo l k = a at *
      generalize l.getD k 0 = d at *
      go_wp2_with fail
      go_round
      case rel => exact ⟨k + 1, by omega, by go_num, by rw [HS.out, ← mxIs]⟩
      case measure => simp [intOf]; omega
    · have hkn : k = n := by omega
      subst hkn
      go_wp2_with fail
      go_ret
      exact ⟨retI HR.out.symm, G.out⟩
set_option maxHeartbeats 1000000 in
theorem implRoundsOf_c (m : AM) (v : Value) (w : World) (h : AggR w (carith m) v) (wf : m.wf) :
    Calls Try.prog 78 #[v] w fun e w' => e = .returned (.int .i64 (rounds m)) ∧ w.grownBy w' none := by
  have HV := Lib.hid h
  obtain ⟨u1, u2, rfl, h1, h2⟩ := carith_open h
  have HW := Lib.hid wf
  clear h h1 h2 wf
  go_enter Try.func78, Try.ntmps78
  go_wp2_with fail
  refine (implMulDepth_c m _ _ (AggR.grow HV.out (gbA (gbR w none) _)) HW.out).mono ?_
  rintro e w1 ⟨V, rfl, o1, g⟩
  have G := Lib.hid (gbT (gbA (gbR w none) _) g)
  obtain ⟨S, sc, rfl, _, hml⟩ := own_form o1
  have HI := Lib.hid (show Ints w1 S (mdepth m).length (mdepth m) from Rd.ofOwn o1)
  have HB := Lib.hid (fun k => maxTo_bd m k)
  have HR : Hid (rounds m = maxTo (mdepth m) (mdepth m).length) := rfl
  have h60 := mdepth_few m
  clear g o1
  generalize mdepth m = l at *
  generalize hln : l.length = n at *
  clear hln
  go_wp2_with fail
  go_loop [3, 9] (fun s i => ∃ k : Nat, k ≤ n ∧ i = .int .i64 k ∧ s = .int .i64 (maxTo l k)) (fun _ i => n - (intOf i).toNat)
  case atStart => exact ⟨0, Nat.zero_le _, rfl, rfl⟩
  case round =>
    obtain ⟨k, hk, rfl, rfl⟩ := hrel
    by_cases hlt : k < n
    · obtain ⟨b, o, rfl, hb, q0⟩ := Ints.cell HI.out hlt
      have i1 : (k : Int) < (n : Int) := by omega
      have HS : Hid (maxTo l (k + 1) = max (maxTo l k) (l.getD k 0)) := rfl
      generalize maxTo l k = a at *
      generalize l.getD k 0 = d at *
      go_wp2_with fail
      go_round
      case rel => exact ⟨k + 1, by omega, by go_num, by rw [HS.out, ← mxIs]⟩
      case measure => simp [intOf]; omega
    · have hkn : k = n := by omega
      subst hkn
      go_wp2_with fail
      go_ret
      exact ⟨retI HR.out.symm, G.out⟩
noncomputable def mulsTo (m : AM) (d : Int) : Nat → List Int
  | 0 => []
  | k + 1 => mulsTo m d k ++ if (stAt m k).1 = 4 ∧ (mdepth m).getD k 0 = d then [(k : Int)] else []
noncomputable def mulsAt (m : AM) (d : Int) : List Int := mulsTo m d (mdepth m).length
theorem mulsTo_len (m : AM) (d : Int) : ∀ k, (mulsTo m d k).length ≤ k
  | 0 => by simp [mulsTo]
  | k + 1 => by
    have := mulsTo_len m d k
    rw [mulsTo, List.length_append]
    split <;> simp <;> omega
theorem mulsAt_few (m : AM) (d : Int) : (mulsAt m d).length ≤ 60 := Nat.le_trans (mulsTo_len m d _) (mdepth_few m)
theorem mdepth_len {m : AM} (h : AOk m) : (mdepth m).length = m.st.length := by rw [mdepth_yes h, depsS_len]
theorem mdepth_le (m : AM) : (mdepth m).length ≤ m.st.length := by
  by_cases h : AOk m
  · rw [mdepth_len h]; exact Nat.le_refl _
  · rw [mdepth_no h]; simp
set_option maxRecDepth 100000 in
set_option maxHeartbeats 2000000 in
theorem specMulsAt_c (m : AM) (d : Int) (v : Value) (w : World) (h : AggR w (carith m) v) (wf : m.wf) :
    Calls Try.prog 13 #[v, .int .i64 d] w (RowI (mulsAt m d) w) := by
  have HV := Lib.hid h
  obtain ⟨u1, u2, rfl, h1, h2⟩ := carith_open h
  obtain ⟨A, c, rfl, hc, hm, hF⟩ := plst_rd (s := 3) (fun _ => rfl) (by omega) h1
  have HF := Lib.hid hF
  have HW := Lib.hid wf
  unfold maxLen at hm
  have hle := mdepth_le m
  clear h h1 h2 wf hF
  have B1 := Lib.hid (Blk.new w 29 #[.int .i64 m.p, .slice A m.st.length c, u2])
  have B2 := Lib.hid (B1.out.grow (gbA (gbR _ none) (.cells #[] 3)))
  have G2 := Lib.hid (gbA (gbA (gbR w none) (.cells #[.int .i64 m.p, .slice A m.st.length c, u2] 29)) (.cells #[] 3))
  have O2 : Hid (((w.alloc (.cells #[.int .i64 m.p, .slice A m.st.length c, u2] 29)).alloc (.cells #[] 3)).ownsRow (w.heap.size + 1) 3 1 (.slice (some ⟨w.heap.size + 1, 0, none⟩) 0 0) 0 []) := by
    have := World.ownsRow_made (e := 3) (size := 1) (base := w.heap.size + 1) (w.alloc (.cells #[.int .i64 m.p, .slice A m.st.length c, u2] 29)) #[] 0 B1.out.lt (by simp) rfl
    simpa [Hid] using this
  clear B1
  go_enter Try.func13, Try.ntmps13
  go_wp2_with fail
  refine (specMulDepth_c m _ _ (AggR.grow HV.out G2.out) HW.out).mono ?_
  rintro e w1 ⟨V, rfl, o1, g⟩
  have G3 := Lib.hid (gbT G2.out g)
  have B3 := Lib.hid (B2.out.grow g)
  have O3 := Lib.hid (own_grow O2.out g)
  obtain ⟨S, sc, rfl, hSl, hml⟩ := own_form o1
  have I3 := Lib.hid (show Ints w1 S (mdepth m).length (mdepth m) from Rd.ofOwn o1)
  have D3 : Hid (∀ g, (Value.slice (some ⟨w.heap.size + 1, 0, none⟩) 0 0).ownBlock = some g → ∀ a, S = some a → a.block ≠ g) := by
    intro g hg a ha e
    have := (hSl a ha).2.2.1
    simp [Value.ownBlock] at hg this
    omega
  have h60 := mdepth_few m
  obtain ⟨l, hl⟩ : ∃ l, mdepth m = l := ⟨_, rfl⟩
  have HL := Lib.hid hl
  rw [hl] at I3 hml h60 hle ⊢
  obtain ⟨n, hn⟩ : ∃ n, l.length = n := ⟨_, rfl⟩
  have HN := Lib.hid hn
  rw [hn] at I3 hml h60 hle ⊢
  clear g o1 hSl hl hn B2 O2 G2
  go_wp2_with fail
  have hml2 := hml
  unfold maxLen at hml2
  go_loopw [5, 7] (fun s i wr => ∃ k : Nat, k ≤ n ∧ i = .int .i64 k ∧ Hid (wr.ownsRow (w.heap.size + 1) 3 1 s (mulsTo m d k).length ((mulsTo m d k).map (Value.int .i64))) ∧ Hid (Blk wr w.heap.size 29 #[.int .i64 m.p, .slice A m.st.length c, u2]) ∧ Hid (w.grownBy wr none) ∧ Hid (Ints wr S n l) ∧ Hid (∀ g, s.ownBlock = some g → ∀ a, S = some a → a.block ≠ g)) (fun _ i _ => n - (intOf i).toNat)
  case atStart => exact ⟨0, Nat.zero_le _, rfl, O3.out, B3.out, G3.out, I3.out, D3.out⟩
  case round =>
    clear O3 B3 G3 I3 D3
    obtain ⟨k, hk, rfl, hown, hB, hG, hI, hD⟩ := hrel
    have c1 := hB.out.cell 1
    simp at c1
    by_cases hlt : k < n
    · obtain ⟨bb, ob, e1, hbb, r1⟩ := Ints.cell hI.out hlt
      subst e1
      obtain ⟨b, o, x, y, z, rfl, hb, hx, q0, q1, q2⟩ := steps_at (FL.grow HF.out hG.out) (Nat.lt_of_lt_of_le hlt hle)
      have i1 : (k : Int) < (n : Int) := by omega
      have i2 : (k : Int) < (m.st.length : Int) := by omega
      have hx' : stAt m k = (x, y, z) := by simp [stAt, List.getD_eq_getElem?_getD, hx]
      have HDS : Hid (mulsTo m d (k + 1) = mulsTo m d k ++ if x = 4 ∧ l.getD k 0 = d then [(k : Int)] else []) := by unfold Hid; rw [mulsTo, hx', HL.out]
      clear hx hx'
      generalize l.getD k 0 = e at *
      have hmk := mulsTo_len m d k
      generalize hM : mulsTo m d k = M at *
      generalize hM1 : mulsTo m d (k + 1) = M1 at *
      have HM1 := Lib.hid hM1
      clear hM hM1
      cases h4 : x == 4
      · have HDS' : Hid (M1 = M) := by unfold Hid; rw [HDS.out, if_neg (fun h => by simp [h.1] at h4)]; simp
        clear HDS
        go_wp2_with fail
        go_roundw
        case rel => exact ⟨k + 1, by omega, by go_num, by rw [HM1.out, HDS'.out]; exact hown.out, hB.out, hG.out, hI.out, hD.out⟩
        case measure => simp [intOf]; omega
      · cases h5 : e == d
        · have HDS' : Hid (M1 = M) := by unfold Hid; rw [HDS.out, if_neg (fun h => by simp [h.2] at h5)]; simp
          clear HDS
          go_wp2_with fail
          go_roundw
          case rel => exact ⟨k + 1, by omega, by go_num, by rw [HM1.out, HDS'.out]; exact hown.out, hB.out, hG.out, hI.out, hD.out⟩
          case measure => simp [intOf]; omega
        · have HDS' : Hid (M1 = M ++ [(k : Int)]) := by unfold Hid; rw [HDS.out, if_pos (by simp at h4 h5; exact ⟨h4, h5⟩)]
          clear HDS
          have hbs := hB.out.lt
          have hsb := bb
          go_wp2_with (at_builtin; refine wp_appendB _ wr.heap.size rfl el_int rfl (.tmp 32) (.tmp 34) rfl _ rfl (by simp [Value.oneCell']) (w.heap.size + 1) _ _ _ hown.out rfl rfl (by unfold maxLen; omega) (by omega) (by omega) ?_; intro v' w5 hown5 hgrow5 hnew5)
          have h1 : Hid (w5.ownsRow (w.heap.size + 1) 3 1 v' M1.length (M1.map (Value.int .i64))) := by unfold Hid; rw [HDS'.out]; simpa using hown5
          have h2 := Lib.hid (hB.out.grown hgrow5 (fun e => by have := (hown.out.lt _ e.symm).1; omega))
          have h3 := Lib.hid (gbN hG.out hgrow5 fun g e => by have := (hown.out.lt g e).1; omega)
          have h4' := Lib.hid (hI.out.grown hgrow5 (by rintro a ha e; exact hD.out _ e.symm a ha rfl))
          have h5' : Hid (∀ g, v'.ownBlock = some g → ∀ a, some (⟨bb, ob, none⟩ : Addr) = some a → a.block ≠ g) := by
            intro g hg a ha e
            rcases hnew5 g hg with h6 | h6
            · exact hD.out g h6.symm a ha e
            · injection ha with ha; subst ha; simp at e; omega
          clear hown5 hgrow5 hnew5 hown hB hG hI hD
          go_wp2_with fail
          go_roundw
          case rel => exact ⟨k + 1, by omega, by go_num, by rw [HM1.out]; exact h1.out, h2.out, h3.out, h4'.out, h5'.out⟩
          case measure => simp [intOf]; omega
    · have hkn : k = n := by omega
      subst hkn
      go_wp2_with fail
      go_ret
      have hR : mulsAt m d = mulsTo m d k := by unfold mulsAt; rw [HL.out, HN.out]
      exact ⟨_, rfl, by rw [hR]; exact own_base hown.out (by omega), hG.out⟩
end Go.Proofs.Ythaadgdeadbhkaa
