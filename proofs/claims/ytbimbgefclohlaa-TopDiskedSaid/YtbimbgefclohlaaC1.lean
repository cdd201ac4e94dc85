/- One part of the proof that postmarktop.TopDisked returns true for every input and that its input reads behind the call as it read before (theorem topDisked_holds in YtbimbgefclohlaaC31). The laws of this text have their conditions in their own statements; the theorem that is claimed has none. -/
import Derived.Test.YtbimbgefclohlaaB9
set_option linter.unusedVariables false
set_option linter.unusedSimpArgs false
namespace Go.Proofs.Ytbimbgefclohlaa
open Go.RowKit

theorem new_info : ∃ z : Value, z.cells.toList = List.replicate 64 (.int .u8 0) ∧ (Try.prog.info? 51).map (fun i => (i.zero, i.size, i.bytes)) = some (some z, 64, 64) := ⟨((Try.prog.info? 51).bind (·.zero)).getD undef, by kernel_rfl, by kernel_rfl⟩
theorem secs_zero (n : Nat) : secs (List.replicate n (List.replicate 64 0)) = List.replicate (n * 64) (.int .u8 0) := by
  induction n with
  | zero => rfl
  | succ n ih =>
    have : secs (List.replicate (n + 1) (List.replicate 64 0)) = sec (List.replicate 64 0) ++ secs (List.replicate n (List.replicate 64 0)) := by
      simp [secs, List.replicate_succ (n := n)]
    rw [this, ih]
    simp only [sec, List.map_replicate, List.replicate_append_replicate]
    congr 1
    omega
theorem made_zero {z : Value} (h : z.cells.toList = List.replicate 64 (.int .u8 0)) (n : Nat) : (madeCells z.cells (n * 64)).toList = secs (List.replicate n (List.replicate 64 0)) := by
  rw [secs_zero]
  have hs : z.cells.size = 64 := by rw [← Array.length_toList, h]; simp
  apply List.ext_getElem?
  intro k
  by_cases hk : k < n * 64
  · have hm : k % 64 < z.cells.size := by rw [hs]; exact Nat.mod_lt _ (by decide)
    have h3 : z.cells[k % 64]? = some (.int .u8 0) := by
      rw [← Array.getElem?_toList, h, List.getElem?_replicate, if_pos (by omega)]
    have h4 : z.cells[k % 64]! = .int .u8 0 := by rw [Array.getElem!_eq_getD, Array.getD_eq_getD_getElem?, h3]; rfl
    simp [madeCells, hk, hs, h4]
  · simp [madeCells, hk]

theorem build49 (w : World) (A : Option Addr) (n c : Nat) (room : Int) : (Instr.build 49 #[(0, .slice A n c), (2, .int .i64 room)]).run Try.prog w = .ok (.agg #[.slice A n c, .slice none 0 0, .int .i64 room, .bool false, .int .i64 0, .slice none 0 0]) w := by
  refine run_build w 49 _ _ ?_
  kernel_rfl

def newD (n : Nat) (room : Int) : Dk := { stays := List.replicate n (List.replicate 64 0), waits := [], room := room, down := false, steps := 0, choice := [] }
set_option maxHeartbeats 1000000 in
theorem new_bad (w : World) (n room : Int) (h : n < 1 ∨ 64 < n ∨ room < 0 ∨ 10000 < room) :
    Calls Try.prog 6 #[.int .i64 n, .int .i64 room] w fun e w' => e = .returned (.tuple #[.pointer none, .int .i64 170]) ∧ w = w' := by
  by_cases h1 : n < 1
  · have h1' : decide (n < 1) = true := by simpa using h1
    clear h
    go_enter Try.func6, Try.ntmps6
    go_wp2_with fail
    go_ret2
    exact ⟨rfl, rfl⟩
  · have h1' : decide (n < 1) = false := by simpa using h1
    by_cases h2 : 64 < n
    · have h2' : decide (64 < n) = true := by simpa using h2
      clear h
      go_enter Try.func6, Try.ntmps6
      go_wp2_with fail
      go_ret2
      exact ⟨rfl, rfl⟩
    · have h2' : decide (64 < n) = false := by simpa using h2
      by_cases h3 : room < 0
      · have h3' : decide (room < 0) = true := by simpa using h3
        clear h
        go_enter Try.func6, Try.ntmps6
        go_wp2_with fail
        go_ret2
        exact ⟨rfl, rfl⟩
      · have h3' : decide (room < 0) = false := by simpa using h3
        have h4 : 10000 < room := by omega
        have h4' : decide (10000 < room) = true := by simpa using h4
        clear h
        go_enter Try.func6, Try.ntmps6
        go_wp2_with fail
        go_ret2
        exact ⟨rfl, rfl⟩

set_option maxHeartbeats 1000000 in
theorem new_good (w : World) (n : Nat) (room : Int) (h1 : 1 ≤ n) (h2 : n ≤ 64) (h3 : 0 ≤ room) (h4 : room ≤ 10000) :
    Calls Try.prog 6 #[.int .i64 n, .int .i64 room] w fun e w' => ∃ g sv, e = .returned (.tuple #[.pointer (some ⟨g, 0, none⟩), .int .i64 0]) ∧
      IsDisk w.heap.size w' g sv (.slice none 0 0) (.slice none 0 0) (newD n room) ∧ Below w.heap.size w w' := by
  obtain ⟨z, zs, zi⟩ := new_info
  obtain ⟨i0, i1, i2, i3, i4⟩ := info_parts' zi
  have h1' : decide ((n : Int) < 1) = false := by simp; omega
  have h2' : decide (64 < (n : Int)) = false := by simp; omega
  have h3' : decide (room < 0) = false := by simp; omega
  have h4' : decide (10000 < room) = false := by simp; omega
  have ZS := Lib.hid (made_zero zs n)
  have I1 := Lib.hid i1
  have I2 := Lib.hid i2
  have I3 := Lib.hid i3
  have I4 := Lib.hid i4
  clear zs zi i1 i2 i3 i4
  go_enter Try.func6, Try.ntmps6
  go_wp2_with (at_make; refine wpList_make_full w rfl (.tmp 20) (.tmp 20) 44 rfl w.heap.size 51 i0 z 64 Try.underlying44 I1.out I2.out I3.out .i64 .i64 _ _ n rfl rfl rfl rfl (by rw [I4.out]; omega) (by simp only [maxLen]; omega) (Nat.le_refl _) ?_; intro w1 hown hgr; have HO := Lib.hid hown; have HG := Lib.hid hgr; clear hown hgr)
  go_ret2
  have hown := HO.out
  rw [ZS.out] at hown
  have hg := HG.out
  have hlen : (newD n room).stays.length = n := by simp [newD]
  refine ⟨_, .slice (some ⟨w.heap.size, 0, none⟩) n n, rfl, ⟨⟨by rw [hlen]; omega, ?_, (fun p hp => by cases hp), ?_, ⟨Int.le_refl _, by simp [newD]⟩, byteL_nil⟩, hg.size, heap_alloc_new _ _, ?_, World.ownsRow_nil _ _ _ _, ⟨none, 0, rfl, by simp [newD], .inl rfl⟩⟩, ?_⟩
  · intro x hx
    rw [(List.mem_replicate.1 hx).2]
    refine ⟨by simp, fun c hc => ?_⟩
    rw [(List.mem_replicate.1 hc).2]
    omega
  · simp only [newD, List.length_nil]; omega
  · rw [hlen]; exact hown.alloc _
  · exact ⟨hg.os, hg.tape, hg.output, by have := hg.size; simp; omega, fun k hk => by rw [Below.heap_alloc w1 _ k (by have := hg.size; omega)]; exact hg.block k hk (by simp)⟩
end Go.Proofs.Ytbimbgefclohlaa
