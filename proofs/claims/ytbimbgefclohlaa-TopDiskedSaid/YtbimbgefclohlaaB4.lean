/- One part of the proof that postmarktop.TopDisked returns true for every input and that its input reads behind the call as it read before (theorem topDisked_holds in YtbimbgefclohlaaC31). The laws of this text have their conditions in their own statements; the theorem that is claimed has none. -/
import Derived.Test.YtbimbgefclohlaaB3
import Derived.Great.BuildSlice
set_option linter.unusedVariables false
set_option linter.unusedSimpArgs false
namespace Go.Proofs.Ytbimbgefclohlaa
open Go.RowKit

theorem fill2 (z : Array Value) (n : Nat) (hz : z.size = n + 1) (x : Int) (ys : List Value) (hy : ys.length = n) :
    Instr.fill (#[(0, 1), (1, n)][·]?) z [(0, .int .i64 x), (1, .agg ys.toArray)] = some (.int .i64 x :: ys).toArray := by
  obtain ⟨h1, h2⟩ := Great.foldl_set 1 ys 0 (z.setIfInBounds 0 (.int .i64 x))
  simp only [Nat.add_zero] at h1 h2
  simp [Instr.fill, Value.cells, hz, hy, h1]
  refine ⟨by omega, ?_⟩
  apply Array.ext_getElem?
  intro k
  rw [h2 k]
  by_cases hk : k = 0
  · subst hk
    simp [hz]
  · obtain ⟨j, rfl⟩ : ∃ j, k = j + 1 := ⟨k - 1, by omega⟩
    simp [hz, hy]
    intro hj
    rw [Array.getElem?_eq_none (by omega), List.getElem?_eq_none (by omega)]

theorem build53 (w : World) (x : Int) (ys : List Int) (hy : ys.length = 64) : (Instr.build 53 #[(0, .int .i64 x), (1, .agg (sec ys).toArray)]).run Try.prog w = .ok (.agg (.int .i64 x :: sec ys).toArray) w := by
  refine run_build w 53 _ _ ?_
  have hp : Program.built Try.prog 53 [(0, .int .i64 x), (1, .agg (sec ys).toArray)] = Instr.fill (#[(0, 1), (1, 64)][·]?) (((Try.prog.info? 53).bind (·.zero)).getD undef).cells [(0, .int .i64 x), (1, .agg (sec ys).toArray)] := by kernel_rfl
  rw [show (#[(0, Value.int IntKind.i64 x), (1, Value.agg (sec ys).toArray)] : Array (Nat × Value)).toList = [(0, .int .i64 x), (1, .agg (sec ys).toArray)] from rfl, hp]
  exact fill2 _ 64 (by kernel_rfl) x _ (by rw [sec_length, hy])

theorem clW_z : ∃ ie z, Try.prog.info? 53 = some ie ∧ ie.zero = some z ∧ ie.size = 65 := by
  refine ⟨(Try.prog.info? 53).getD default, ((Try.prog.info? 53).bind (·.zero)).getD undef, by kernel_rfl, by kernel_rfl, by kernel_rfl⟩
theorem buildS45 (w : World) (cs : List Value) (hc : cs.length = 65) : (Instr.buildSlice 45 1 #[(0, .agg cs.toArray)]).run Try.prog w = .ok (.slice (some ⟨w.heap.size, 0, none⟩) 1 1) (w.alloc (.cells cs.toArray 53)) := by
  obtain ⟨ie, z, h1, h2, h3⟩ := clW_z
  refine run_buildSlice w 45 53 1 _ cs.toArray ie z Try.underlying45 h1 h2 (by rw [h3]; decide) (by rw [h3]; decide) ?_
  rw [h3]
  have hf := Great.fill_whole (s := 65) (by decide) [.agg cs.toArray] ((Array.range (1 * 65)).map (z.cells[· % z.cells.size]!)) (by intro v hv; rw [List.mem_singleton.1 hv]; simpa [Value.cells] using hc) (by simp)
  have e : ([Value.agg cs.toArray].flatMap fun v => v.cells.toList).toArray = cs.toArray := by simp [Value.cells]
  rw [e] at hf
  exact hf
end Go.Proofs.Ytbimbgefclohlaa
