/- One part of the proof that postmarktop.TopDisked returns true for every input and that its input reads behind the call as it read before (theorem topDisked_holds in YtbimbgefclohlaaC31). The laws of this text have their conditions in their own statements; the theorem that is claimed has none. -/
import Derived.Test.YtbimbgefclohlaaA8
set_option linter.unusedVariables false
set_option linter.unusedSimpArgs false
namespace Go.Proofs.Ytbimbgefclohlaa
open Go.RowKit

section
variable {B : Nat} {w w' : World} {g : Nat} {sv wv cv : Value} {D : Dk}
theorem IsDisk.ne (h : IsDisk B w g sv wv cv D) (k : Nat) : (sv.ownBlock = some k → k ≠ g) ∧ (wv.ownBlock = some k → k ≠ g) ∧ (∀ cells, w.heap[k]? = some (.cells cells 5 (0, 0)) → k ≠ g) := by
  have hd : w.heap[g]? = _ := h.db
  refine ⟨fun hk => ?_, fun hk => ?_, fun cells hc => ?_⟩
  · obtain ⟨_, c, hc⟩ := own_typed' h.s k hk
    rintro rfl
    rw [hd] at hc; cases hc
  · obtain ⟨_, c, hc⟩ := own_typed' h.wt k hk
    rintro rfl
    rw [hd] at hc; cases hc
  · rintro rfl
    rw [hd] at hc; cases hc
/-- numbers in its own block turned -/
theorem IsDisk.put (h : IsDisk B w g sv wv cv D) {room : Int} {down : Bool} {steps : Int} (hg : DB w' g sv wv cv room down steps) (hm : ∀ k, k ≠ g → w'.heap[k]? = w.heap[k]?)
    (ok : ({ D with room := room, down := down, steps := steps } : Dk).Ok) : IsDisk B w' g sv wv cv { D with room := room, down := down, steps := steps } :=
  ⟨ok, h.base, hg, own_same h.s (fun k hk => hm k ((h.ne k).1 hk)), own_same h.wt (fun k hk => hm k ((h.ne k).2.1 hk)), h.c.keep (fun k cells hk => hm k ((h.ne k).2.2 cells hk))⟩
theorem IsDisk.set4 (h : IsDisk B w g sv wv cv D) (n : Int) (hn : 0 ≤ n ∧ n ≤ 9223372036854775807) : IsDisk B (w.setCell ⟨g, 4, none⟩ (.int .i64 n)) g sv wv cv { D with steps := n } :=
  h.put (room := D.room) (down := D.down) (steps := n) (by unfold DB; rw [heap_setCell_same _ _ _ _ 49 _ h.db]; rfl) (fun k hk => heap_setCell_other _ _ _ _ hk) ⟨h.ok.n, h.ok.s, h.ok.w, h.ok.r, hn, h.ok.c⟩
theorem IsDisk.set3 (h : IsDisk B w g sv wv cv D) (b : Bool) : IsDisk B (w.setCell ⟨g, 3, none⟩ (.bool b)) g sv wv cv { D with down := b } :=
  h.put (room := D.room) (down := b) (steps := D.steps) (by unfold DB; rw [heap_setCell_same _ _ _ _ 49 _ h.db]; rfl) (fun k hk => heap_setCell_other _ _ _ _ hk) ⟨h.ok.n, h.ok.s, h.ok.w, h.ok.r, h.ok.st, h.ok.c⟩
theorem IsDisk.set2 (h : IsDisk B w g sv wv cv D) (n : Int) (hn : 0 ≤ n ∧ D.waits.length + n ≤ 10000) : IsDisk B (w.setCell ⟨g, 2, none⟩ (.int .i64 n)) g sv wv cv { D with room := n } :=
  h.put (room := n) (down := D.down) (steps := D.steps) (by unfold DB; rw [heap_setCell_same _ _ _ _ 49 _ h.db]; rfl) (fun k hk => heap_setCell_other _ _ _ _ hk) ⟨h.ok.n, h.ok.s, h.ok.w, hn, h.ok.st, h.ok.c⟩
theorem IsDisk.no5 (h : IsDisk B w g sv wv cv D) : ∀ k, foot g sv wv k → ∃ cells t, w.heap[k]? = some (.cells cells t (0, 0)) ∧ t ≠ 5 := fun k hk => by
  obtain ⟨_, cells, t, hc, ht⟩ := h.types k hk
  exact ⟨cells, t, hc, by rcases ht with rfl | rfl | rfl <;> decide⟩
theorem IsDisk.svform (h : IsDisk B w g sv wv cv D) : ∃ A c, sv = .slice A D.stays.length c := by
  obtain ⟨bs, cap, cur, rfl, _⟩ := h.open_
  exact ⟨_, _, rfl⟩
end

def stepD (D : Dk) : Bool × Dk := if D.steps = 0 then (false, D) else if 1 < D.steps then (false, { D with steps := D.steps - 1 }) else (true, fallD D D.choice)

/-- what a call has left of a disk -/
def Left (B : Nat) (w w' : World) (g : Nat) (sv wv : Value) (D : Dk) : Prop := ∃ sv' wv' cv', IsDisk B w' g sv' wv' cv' D ∧ Step (foot g sv wv) (foot g sv' wv') w w'

set_option maxHeartbeats 1000000 in
theorem step_disk (B : Nat) (w : World) (g : Nat) (sv wv cv : Value) (D : Dk) (h : IsDisk B w g sv wv cv D) :
    Calls Try.prog 17 #[.pointer (some ⟨g, 0, none⟩)] w fun e w' => e = .returned (.bool (stepD D).1) ∧ Left B w w' g sv wv (stepD D).2 := by
  obtain ⟨h0, h1, h2, h3, h4, h5, hf⟩ := h.db.cells
  have hst := h.ok.st
  by_cases c0 : D.steps = 0
  · have e : stepD D = (false, D) := by unfold stepD; rw [if_pos c0]
    rw [e]
    have c0' : (D.steps == 0) = true := by simpa using c0
    have H := Lib.hid h
    clear h c0 e
    go_enter Try.func17, Try.ntmps17
    go_wp2
    go_ret
    exact ⟨rfl, sv, wv, cv, H.out, Step.refl _ _⟩
  · have c0' : (D.steps == 0) = false := by simpa using c0
    by_cases c1 : 1 < D.steps
    · have e : stepD D = (false, { D with steps := D.steps - 1 }) := by unfold stepD; rw [if_neg c0, if_pos c1]
      rw [e]
      have HI := Lib.hid (h.set4 (D.steps - 1) (by omega))
      clear h e
      go_enter Try.func17, Try.ntmps17
      go_wp2
      go_ret
      exact ⟨rfl, sv, wv, cv, HI.out, Step.set (p := ⟨g, 4, none⟩) (.inl rfl) _⟩
    · have e : stepD D = (true, fallD D D.choice) := by unfold stepD; rw [if_neg c0, if_neg c1]
      rw [e]
      have hs1 : D.steps = 1 := by omega
      have hI := h.set4 0 (by omega)
      obtain ⟨ac, cc, rfl, hrb⟩ := hI.c.rb hI.ok.c (foot g sv wv) hI.no5
      have HC := Lib.hid (falls_disk B _ g sv wv _ _ hI ac _ cc _ hrb)
      have hst4 : (w.setCell ⟨g, 4, none⟩ (.int .i64 0)).cell? ⟨g, 4, none⟩ = some (.int .i64 0) := hI.db.cells.2.2.2.2.1
      clear h e hI hrb c0 c1
      generalize D.steps = n at *
      subst hs1
      go_enter Try.func17, Try.ntmps17
      go_wp2_with fail
      refine HC.out.mono ?_
      rintro e w' ⟨rfl, hD, hS⟩
      go_wp2
      go_ret
      exact ⟨rfl, _, _, _, hD, (Step.set (p := ⟨g, 4, none⟩) (.inl rfl) _).trans hS⟩
end Go.Proofs.Ytbimbgefclohlaa
