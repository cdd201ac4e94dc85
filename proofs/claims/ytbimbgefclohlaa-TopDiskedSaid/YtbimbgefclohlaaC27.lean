/- One part of the proof that postmarktop.TopDisked returns true for every input and that its input reads behind the call as it read before (theorem topDisked_holds in YtbimbgefclohlaaC31). The laws of this text have their conditions in their own statements; the theorem that is claimed has none. -/
import Derived.Test.YtbimbgefclohlaaC26
set_option linter.unusedVariables false
set_option linter.unusedSimpArgs false
namespace Go.Proofs.Ytbimbgefclohlaa
open Go.RowKit

theorem disked_any (w : World) (n room : Int) (A : Option Addr) (m c : Nat) (cp : Int) (l : List A17) (hl : ActsIn w A m c l) (hcp : 0 ≤ cp ∧ cp ≤ 255) :
    Calls Try.prog 5 #[.int .i64 n, .int .i64 room, .slice A m c, .int .u8 cp] w fun e w' => e = .returned (.bool true) ∧ Below w.heap.size w w' := by
  by_cases hb : n < 1 ∨ 64 < n ∨ room < 0 ∨ 10000 < room
  · exact disked_bad w n room A m c cp hb
  · obtain ⟨n', rfl⟩ : ∃ n' : Nat, n = n' := ⟨n.toNat, by omega⟩
    exact disked_good w n' room A m c cp l hl hcp (by omega) (by omega) (by omega) (by omega)
end Go.Proofs.Ytbimbgefclohlaa
