/- One part of the proof that postmarktop.TopDisked returns true for every input and that its input reads behind the call as it read before (theorem topDisked_holds in YtbimbgefclohlaaC31). The laws of this text have their conditions in their own statements; the theorem that is claimed has none. -/
import Derived.Test.YtbimbgefclohlaaC22
set_option linter.unusedVariables false
set_option linter.unusedSimpArgs false
namespace Go.Proofs.Ytbimbgefclohlaa
open Go.RowKit

theorem does_x (B : Nat) (w : World) (gd gx : Nat) (sd wd cd sx wx cx : Value) (D : Dk) (hT : Two B w gd gx sd wd cd sx wx cx D) (kind by_ at_ : Int) (ab : Option Addr) (mb cb : Nat) (b : List Int) (hrb : RB w ab mb b (or2 (foot gd sd wd) (foot gx sx wx))) (hkd : 0 ≤ kind ∧ kind ≤ 255)
    (hby : 0 ≤ by_ ∧ by_ ≤ 255) (hat : at_ ≤ 9223372036854775807) :
    Calls Try.prog 15 #[.pointer (some ⟨gx, 0, none⟩), .pointer (some ⟨gd, 0, none⟩), .agg #[.int .u8 kind, .int .u8 by_, .int .i64 at_, .slice ab mb cb]] w fun e w' => e = .returned (.bool true) ∧ LeftT B w w' gd gx (or2 (foot gd sd wd) (foot gx sx wx)) (doD D kind by_ at_ b) := by
  unfold doD
  by_cases h0 : kind % 8 = 0 ∨ kind % 8 = 1 ∨ kind % 8 = 2
  · rw [if_pos h0]
    exact does_write B w gd gx sd wd cd sx wx cx D hT kind by_ at_ ab mb cb hby hkd h0
  · rw [if_neg h0]
    by_cases h3 : kind % 8 = 3
    · rw [if_pos h3]
      cases hd : D.down
      · cases hs : (stepD D).1
        · exact does_flush_go B w gd gx sd wd cd sx wx cx D hT kind by_ at_ ab mb cb b hrb hkd h3 hd hs
        · exact does_flush_step B w gd gx sd wd cd sx wx cx D hT kind by_ at_ ab mb cb b hrb hkd h3 hd hs
      · exact does_flush_down B w gd gx sd wd cd sx wx cx D hT kind by_ at_ ab mb cb b hrb hkd h3 hd
    · rw [if_neg h3]
      by_cases h4 : kind % 8 = 4
      · rw [if_pos h4]
        exact does_crash B w gd gx sd wd cd sx wx cx D hT kind by_ at_ ab mb cb b hrb hkd h4
      · rw [if_neg h4]
        by_cases h5 : kind % 8 = 5
        · rw [if_pos h5]
          by_cases h1 : at_ < 1
          · rw [if_pos h1]
            exact does_arm_bad B w gd gx sd wd cd sx wx cx D hT kind by_ at_ ab mb cb b hrb hkd h5 h1
          · rw [if_neg h1]
            exact does_arm B w gd gx sd wd cd sx wx cx D hT kind by_ at_ ab mb cb b hrb hkd h5 ⟨by omega, hat⟩
        · rw [if_neg h5]
          exact does_boot B w gd gx sd wd cd sx wx cx D hT kind by_ at_ ab mb cb b hrb hkd ⟨fun h => h0 (.inl h), fun h => h0 (.inr (.inl h)), fun h => h0 (.inr (.inr h)), h3, h4, h5⟩
end Go.Proofs.Ytbimbgefclohlaa
