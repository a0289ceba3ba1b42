/-
  Results that lie in memory: structs read out of blocks that are known whole.
-/
import Derived.Test.YthdfkiaoahpjpaaMgFnConstantCircuits1
import Derived.Laws.Rows
namespace Go.Proofs.Ythdfkiaoahpjpaa
open Go.RowKit
theorem Blk.new' (w : World) (t : TypeId) (cs : Array Value) (g : Nat) (h : w.heap.size = g) : Blk (w.alloc (.cells cs t)) g t cs := h ▸ Blk.new w t cs
def isSt : TypeDesc → Bool
  | .struct _ => true
  | .array _ _ => true
  | _ => false
structure St (P : Program) (T : TypeId) (n : Nat) : Prop where
  hu : ∃ d, P.underlying T = some d ∧ isSt d = true
  hi : (P.info? T).map (·.size) = some n
section
variable {P : Program} {fn : Func} {R : Ending → World → Prop} {a : Act} {w : World}
theorem run_row {T t : TypeId} {g : Nat} {cs : Array Value} {n : Nat} (S : St P T n) (B : Blk w g t cs) (hn : cs.size = n) : (loadVar T ⟨g, 0, none⟩).run P w = .ok (.agg cs) w := by
  obtain ⟨⟨d, hu, hd⟩, hi⟩ := S
  exact run_loadVar_row w g t T cs (0, 0) d B hu (by cases d <;> first | rfl | cases hd) (by rw [hi, hn])
theorem ret_c {p : Tmp} {T : TypeId} {g n : Nat} {cs : Array Value} (h : fn.results = #[.cell p T]) (hp : a.tmps.getD p undef = .pointer (some ⟨g, 0, none⟩)) (S : St P T n) (B : Blk w g T cs) (hn : cs.size = n)
    (hd : a.defers = []) (hR : R (.returned (.agg cs)) w) : bodyPost P fn R .ret a w := by
  refine bodyPost_ret (v := .agg cs) ?_ hd hR
  have hp' : a.tmps[p]?.getD undef = .pointer (some ⟨g, 0, none⟩) := by simpa using hp
  simp [results, h, hp', asAddr, run_row S B hn]
theorem ret_ct {p r : Tmp} {T : TypeId} {g n : Nat} {cs : Array Value} (h : fn.results = #[.cell p T, .tmp r]) (hp : a.tmps.getD p undef = .pointer (some ⟨g, 0, none⟩)) (S : St P T n) (B : Blk w g T cs) (hn : cs.size = n)
    (hd : a.defers = []) (hR : R (.returned (.tuple #[.agg cs, a.tmps.getD r undef])) w) : bodyPost P fn R .ret a w := by
  refine bodyPost_ret (v := .tuple #[.agg cs, a.tmps.getD r undef]) ?_ hd hR
  have hp' : a.tmps[p]?.getD undef = .pointer (some ⟨g, 0, none⟩) := by simpa using hp
  simp [results, h, hp', asAddr, run_row S B hn]
end
end Go.Proofs.Ythdfkiaoahpjpaa
