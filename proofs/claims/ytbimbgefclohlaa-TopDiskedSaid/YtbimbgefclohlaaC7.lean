/- One part of the proof that postmarktop.TopDisked returns true for every input and that its input reads behind the call as it read before (theorem topDisked_holds in YtbimbgefclohlaaC31). The laws of this text have their conditions in their own statements; the theorem that is claimed has none. -/
import Derived.Test.YtbimbgefclohlaaC6
set_option linter.unusedVariables false
set_option linter.unusedSimpArgs false
namespace Go.Proofs.Ytbimbgefclohlaa
open Go.RowKit

def LeftX (B : Nat) (w w' : World) (g : Nat) (sv wv : Value) (D : Dk) : Prop := ∃ sv' wv' cv', IsX B w' g sv' wv' cv' D ∧ Step (foot g sv wv) (foot g sv' wv') w w'
theorem LeftX.of_step {B : Nat} {w w1 w2 : World} {g : Nat} {sv wv sv1 wv1 : Value} {D : Dk} (hs : Step (foot g sv wv) (foot g sv1 wv1) w w1) (h : LeftX B w1 w2 g sv1 wv1 D) : LeftX B w w2 g sv wv D := by
  obtain ⟨a, b, c, h1, h2⟩ := h
  exact ⟨a, b, c, h1, hs.trans h2⟩

set_option maxHeartbeats 1000000 in
theorem step_x (B : Nat) (w : World) (g : Nat) (sv wv cv : Value) (D : Dk) (h : IsX B w g sv wv cv D) :
    Calls Try.prog 23 #[.pointer (some ⟨g, 0, none⟩)] w fun e w' => e = .returned (.bool (stepD D).1) ∧ LeftX B w w' g sv wv (stepD D).2 := by
  obtain ⟨h0, h1, h2, h3, h4, h5, hf⟩ := h.xb.cells
  have hst := h.ok.st
  by_cases c0 : D.steps = 0
  · have e : stepD D = (false, D) := by unfold stepD; rw [if_pos c0]
    rw [e]
    have c0' : (D.steps == 0) = true := by simpa using c0
    have H := Lib.hid h
    clear h c0 e
    go_enter Try.func23, Try.ntmps23
    go_wp2
    go_ret
    exact ⟨rfl, sv, wv, cv, H.out, Step.refl _ _⟩
  · have c0' : (D.steps == 0) = false := by simpa using c0
    by_cases c1 : 1 < D.steps
    · have e : stepD D = (false, { D with steps := D.steps - 1 }) := by unfold stepD; rw [if_neg c0, if_pos c1]
      rw [e]
      have HI := Lib.hid (h.set4 (D.steps - 1) (by omega))
      have hst4 : (w.setCell ⟨g, 4, none⟩ (.int .i64 (D.steps - 1))).cell? ⟨g, 4, none⟩ = some (.int .i64 (D.steps - 1)) := HI.out.xb.cells.2.2.2.2.1
      clear h e
      go_enter Try.func23, Try.ntmps23
      go_wp2
      go_ret
      exact ⟨rfl, sv, wv, cv, HI.out, Step.set (p := ⟨g, 4, none⟩) (.inl rfl) _⟩
    · have e : stepD D = (true, fallD D D.choice) := by unfold stepD; rw [if_neg c0, if_neg c1]
      rw [e]
      have hs1 : D.steps = 1 := by omega
      have hI := h.set4 0 (by omega)
      obtain ⟨ac, cc, rfl, hrb⟩ := hI.c.rb hI.ok.c (foot g sv wv) hI.no5
      have HC := Lib.hid (down_x B _ g sv wv _ _ hI ac _ cc _ hrb)
      have hst4 : (w.setCell ⟨g, 4, none⟩ (.int .i64 0)).cell? ⟨g, 4, none⟩ = some (.int .i64 0) := hI.xb.cells.2.2.2.2.1
      have hst5 := hI.xb.cells.2.2.2.2.2.1
      clear h e hI hrb c0 c1
      generalize D.steps = n at *
      subst hs1
      go_enter Try.func23, Try.ntmps23
      go_wp2_with fail
      refine HC.out.mono ?_
      rintro e w' ⟨rfl, hD, hS⟩
      go_wp2
      go_ret
      exact ⟨rfl, _, _, _, hD, (Step.set (p := ⟨g, 4, none⟩) (.inl rfl) _).trans hS⟩
end Go.Proofs.Ytbimbgefclohlaa
