/- One part of the proof that postmarktop.TopDisked returns true for every input and that its input reads behind the call as it read before (theorem topDisked_holds in YtbimbgefclohlaaC31). The laws of this text have their conditions in their own statements; the theorem that is claimed has none. -/
import Derived.Test.YtbimbgefclohlaaProg
import Derived.WalkKit
import Derived.WalkSpells
import Derived.WalkLawsBesides
import Derived.Laws.Rows
namespace Go.Proofs.Ytbimbgefclohlaa
open Go.RowKit

def sec (x : List Int) : List Value := x.map (Value.int .u8)
def secs (xs : List (List Int)) : List Value := xs.flatMap sec
def wrC (p : Nat × List Int) : List Value := .int .i64 (p.1 : Int) :: sec p.2
def wrsC (ps : List (Nat × List Int)) : List Value := ps.flatMap wrC

structure St where
  stays : List (List Int)
  waits : List (Nat × List Int)
  room : Int
  down : Bool
  steps : Int
  choice : List Int

/-- the struct's block -/
def DB (w : World) (g : Nat) (sv wv cv : Value) (room : Int) (down : Bool) (steps : Int) : Prop :=
  w.heap[g]? = some (.cells #[sv, wv, .int .i64 room, .bool down, .int .i64 steps, cv] 49 (0, 0))

theorem DB.cells {w : World} {g : Nat} {sv wv cv : Value} {room : Int} {down : Bool} {steps : Int} (h : DB w g sv wv cv room down steps) :
    w.cell? ⟨g, 0, none⟩ = some sv ∧ w.cell? ⟨g, 1, none⟩ = some wv ∧ w.cell? ⟨g, 2, none⟩ = some (.int .i64 room) ∧ w.cell? ⟨g, 3, none⟩ = some (.bool down) ∧ w.cell? ⟨g, 4, none⟩ = some (.int .i64 steps) ∧ w.cell? ⟨g, 5, none⟩ = some cv ∧ (∀ i, w.frozen? ⟨g, i, none⟩ = false) := by
  unfold DB at h
  refine ⟨?_, ?_, ?_, ?_, ?_, ?_, fun i => frozen_of_row w g i _ 49 h⟩ <;> (rw [cell_of_row w g _ _ 49 (0, 0) h]; rfl)

set_option maxHeartbeats 400000 in
theorem none_nil (w : World) :
    Calls Try.prog 18 #[.pointer none] w fun e w' => e = .returned (.bool true) ∧ w = w' := by
  go_enter Try.func18, Try.ntmps18
  go_wp2
  go_ret
  exact ⟨rfl, rfl⟩

set_option maxHeartbeats 400000 in
theorem none_no (w : World) (g : Nat) (A : Option Addr) (n c : Nat) (wv cv : Value) (room : Int) (down : Bool) (steps : Int)
    (h : DB w g (.slice A n c) wv cv room down steps) (hn : 0 < n) :
    Calls Try.prog 18 #[.pointer (some ⟨g, 0, none⟩)] w fun e w' => e = .returned (.bool false) ∧ w = w' := by
  obtain ⟨h0, h1, h2, h3, h4, h5, _⟩ := h.cells
  have hb : ((n : Int) == 0) = false := by simp; omega
  clear h
  go_enter Try.func18, Try.ntmps18
  go_wp2
  go_ret
  exact ⟨by simp, rfl⟩

set_option maxHeartbeats 400000 in
theorem error_any (w : World) (g : Nat) (A : Option Addr) (n c : Nat) (wv cv : Value) (room : Int) (down : Bool) (steps : Int)
    (h : DB w g (.slice A n c) wv cv room down steps) (hn : 0 < n) :
    Calls Try.prog 16 #[.pointer (some ⟨g, 0, none⟩)] w fun e w' => e = .returned (.int .i64 (if down then 171 else 0)) ∧ w = w' := by
  obtain ⟨h0, h1, h2, h3, h4, h5, _⟩ := h.cells
  cases down
  all_goals
    go_enter Try.func16, Try.ntmps16
    go_wp2_with (go_at_call 18; refine (none_no _ _ _ _ _ _ _ _ _ _ h hn).mono ?_; rintro e w' ⟨rfl, rfl⟩)
    go_ret
    exact ⟨rfl, rfl⟩

/-! Up, Waits, Room, Boot -/
set_option maxHeartbeats 400000 in
theorem up_nil (w : World) : Calls Try.prog 9 #[.pointer none] w fun e w' => e = .returned (.bool false) ∧ w = w' := by
  go_enter Try.func9, Try.ntmps9
  go_wp2_with (go_at_call 18; refine (none_nil _).mono ?_; rintro e w' ⟨rfl, rfl⟩)
  go_ret
  exact ⟨rfl, rfl⟩
set_option maxHeartbeats 400000 in
theorem up_any (w : World) (g : Nat) (A : Option Addr) (n c : Nat) (wv cv : Value) (room : Int) (down : Bool) (steps : Int)
    (h : DB w g (.slice A n c) wv cv room down steps) (hn : 0 < n) :
    Calls Try.prog 9 #[.pointer (some ⟨g, 0, none⟩)] w fun e w' => e = .returned (.bool (!down)) ∧ w = w' := by
  obtain ⟨h0, h1, h2, h3, h4, h5, _⟩ := h.cells
  go_enter Try.func9, Try.ntmps9
  go_wp2_with (go_at_call 18; refine (none_no _ _ _ _ _ _ _ _ _ _ h hn).mono ?_; rintro e w' ⟨rfl, rfl⟩)
  go_ret
  exact ⟨rfl, rfl⟩
set_option maxHeartbeats 400000 in
theorem waits_nil (w : World) : Calls Try.prog 10 #[.pointer none] w fun e w' => e = .returned (.int .i64 0) ∧ w = w' := by
  go_enter Try.func10, Try.ntmps10
  go_wp2_with (go_at_call 18; refine (none_nil _).mono ?_; rintro e w' ⟨rfl, rfl⟩)
  go_ret
  exact ⟨rfl, rfl⟩
set_option maxHeartbeats 400000 in
theorem waits_any (w : World) (g : Nat) (A : Option Addr) (n c : Nat) (B : Option Addr) (m mc : Nat) (cv : Value) (room : Int) (down : Bool) (steps : Int)
    (h : DB w g (.slice A n c) (.slice B m mc) cv room down steps) (hn : 0 < n) :
    Calls Try.prog 10 #[.pointer (some ⟨g, 0, none⟩)] w fun e w' => e = .returned (.int .i64 m) ∧ w = w' := by
  obtain ⟨h0, h1, h2, h3, h4, h5, _⟩ := h.cells
  go_enter Try.func10, Try.ntmps10
  go_wp2_with (go_at_call 18; refine (none_no _ _ _ _ _ _ _ _ _ _ h hn).mono ?_; rintro e w' ⟨rfl, rfl⟩)
  go_ret
  exact ⟨rfl, rfl⟩
set_option maxHeartbeats 400000 in
theorem room_nil (w : World) : Calls Try.prog 11 #[.pointer none] w fun e w' => e = .returned (.int .i64 0) ∧ w = w' := by
  go_enter Try.func11, Try.ntmps11
  go_wp2_with (go_at_call 18; refine (none_nil _).mono ?_; rintro e w' ⟨rfl, rfl⟩)
  go_ret
  exact ⟨rfl, rfl⟩
set_option maxHeartbeats 400000 in
theorem room_any (w : World) (g : Nat) (A : Option Addr) (n c : Nat) (wv cv : Value) (room : Int) (down : Bool) (steps : Int)
    (h : DB w g (.slice A n c) wv cv room down steps) (hn : 0 < n) :
    Calls Try.prog 11 #[.pointer (some ⟨g, 0, none⟩)] w fun e w' => e = .returned (.int .i64 room) ∧ w = w' := by
  obtain ⟨h0, h1, h2, h3, h4, h5, _⟩ := h.cells
  go_enter Try.func11, Try.ntmps11
  go_wp2_with (go_at_call 18; refine (none_no _ _ _ _ _ _ _ _ _ _ h hn).mono ?_; rintro e w' ⟨rfl, rfl⟩)
  go_ret
  exact ⟨rfl, rfl⟩
set_option maxHeartbeats 400000 in
theorem boot_nil (w : World) : Calls Try.prog 8 #[.pointer none] w fun e w' => e = .returned (.int .i64 1) ∧ w = w' := by
  go_enter Try.func8, Try.ntmps8
  go_wp2_with (go_at_call 18; refine (none_nil _).mono ?_; rintro e w' ⟨rfl, rfl⟩)
  go_ret
  exact ⟨rfl, rfl⟩
set_option maxHeartbeats 400000 in
theorem boot_any (w : World) (g : Nat) (A : Option Addr) (n c : Nat) (wv cv : Value) (room : Int) (down : Bool) (steps : Int)
    (h : DB w g (.slice A n c) wv cv room down steps) (hn : 0 < n) :
    Calls Try.prog 8 #[.pointer (some ⟨g, 0, none⟩)] w fun e w' => e = .returned (.int .i64 0) ∧ w' = w.setCell ⟨g, 3, none⟩ (.bool false) := by
  obtain ⟨h0, h1, h2, h3, h4, h5, hf⟩ := h.cells
  go_enter Try.func8, Try.ntmps8
  go_wp2_with (go_at_call 18; refine (none_no _ _ _ _ _ _ _ _ _ _ h hn).mono ?_; rintro e w' ⟨rfl, rfl⟩)
  go_ret
  exact ⟨rfl, rfl⟩
end Go.Proofs.Ytbimbgefclohlaa
