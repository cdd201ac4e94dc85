/- One part of the proof that postmarktop.TopDisked returns true for every input and that its input reads behind the call as it read before (theorem topDisked_holds in YtbimbgefclohlaaC31). The laws of this text have their conditions in their own statements; the theorem that is claimed has none. -/
import Derived.Test.YtbimbgefclohlaaC19
set_option linter.unusedVariables false
set_option linter.unusedSimpArgs false
namespace Go.Proofs.Ytbimbgefclohlaa
open Go.RowKit Go.Proofs.YtbimbgefclohlaaW.PrintWords Go.Proofs.YtbimbgefclohlaaW.PrintLast

set_option maxHeartbeats 8000000 in
set_option maxRecDepth 100000 in
theorem does_crash (B : Nat) (w : World) (gd gx : Nat) (sd wd cd sx wx cx : Value) (D : Dk) (hT : Two B w gd gx sd wd cd sx wx cx D) (kind by_ at_ : Int) (ab : Option Addr) (mb cb : Nat) (b : List Int) (hrb : RB w ab mb b (or2 (foot gd sd wd) (foot gx sx wx))) (hkd : 0 ≤ kind ∧ kind ≤ 255)
    (hk : kind % 8 = 4) :
    Calls Try.prog 15 #[.pointer (some ⟨gx, 0, none⟩), .pointer (some ⟨gd, 0, none⟩), .agg #[.int .u8 kind, .int .u8 by_, .int .i64 at_, .slice ab mb cb]] w fun e w' => e = .returned (.bool true) ∧ LeftT B w w' gd gx (or2 (foot gd sd wd) (foot gx sx wx)) (if D.down then D else fallD D b) := by
  obtain ⟨W0, hW0⟩ : ∃ W0, w.alloc (.cells #[.int .u8 kind, .int .u8 by_, .int .i64 at_, .slice ab mb cb] 27) = W0 := ⟨_, rfl⟩
  have hbel : Below w.heap.size w W0 := by rw [← hW0]; exact (Below.refl _ _).alloc (Nat.le_refl _) _
  have hT0 := hT.below hbel
  have hrb0 := hrb.below hbel
  have ha : W0.heap[w.heap.size]? = some (.cells #[.int .u8 kind, .int .u8 by_, .int .i64 at_, .slice ab mb cb] 27 (0, 0)) := by rw [← hW0]; exact heap_alloc_new _ _
  have hc0 : W0.cell? ⟨w.heap.size, 0, none⟩ = some (.int .u8 kind) := by rw [cell_of_row W0 w.heap.size 0 _ 27 (0, 0) ha]; rfl
  have hc2 : W0.cell? ⟨w.heap.size, 2, none⟩ = some (.int .i64 at_) := by rw [cell_of_row W0 w.heap.size 2 _ 27 (0, 0) ha]; rfl
  have hcb : W0.cell? ⟨w.heap.size, 3, none⟩ = some (.slice ab mb cb) := by rw [cell_of_row W0 w.heap.size 3 _ 27 (0, 0) ha]; rfl
  have hc3 : W0.cell? ⟨gx, 3, none⟩ = some (.bool (!D.down)) := hT0.x.xb.cells.2.2.2.1
  have hcf : W0.frozen? ⟨gx, 3, none⟩ = false := hT0.x.xb.cells.2.2.2.2.2.2 3
  have hba : w.heap.size < W0.heap.size := (Array.getElem?_eq_some_iff.1 ha).1
  have hbd : ¬ foot gd sd wd w.heap.size := fun hk => by have := hT.d.lt _ hk; omega
  have hbx : ¬ foot gx sx wx w.heap.size := fun hk => by have := hT.x.lt _ hk; omega
  have j0 : (kind % 8 == 0) = decide (kind % 8 = 0) := rfl
  have j1 : (kind % 8 == 1) = decide (kind % 8 = 1) := rfl
  have j2 : (kind % 8 == 2) = decide (kind % 8 = 2) := rfl
  have j3 : (kind % 8 == 3) = decide (kind % 8 = 3) := rfl
  have j4 : (kind % 8 == 4) = decide (kind % 8 = 4) := rfl
  have j5 : (kind % 8 == 5) = decide (kind % 8 = 5) := rfl
  simp only [hk] at j0 j1 j2 j3 j4 j5
  have HT0 := Lib.hid hT0
  have HRB := Lib.hid hrb0
  have HBE := Lib.hid hbel
  have HA := Lib.hid ha
  have HW0 := Lib.hid hW0
  have HBA := Lib.hid hba
  have HBD := Lib.hid hbd
  have HBX := Lib.hid hbx
  clear hT hrb hT0 hrb0 hbel ha hW0 hba hbd hbx
  cases hd : D.down
  · have HW1 := Lib.hid (down_x B W0 gx sx wx cx D HT0.out.x ab mb cb b (HRB.out.less (fun k h => .inr h)))
    rw [hd] at hc3
    go_enter Try.func15, Try.ntmps15
    refine wp_seq_h ?_
    intro K HK
    go_wp2_with fail
    rw [HW0.out]
    refine HK.out _ _ ?_
    clear HK K
    go_wp2_with fail
    refine HW1.out.mono ?_
    rintro e' w5 ⟨rfl, hx5, hs5⟩
    obtain ⟨sx6, wx6, cx6, hd6, hx6, hs6⟩ := HT0.out.turnX ⟨_, _, _, hx5, hs5⟩
    have hcb6 : w5.cell? ⟨w.heap.size, 3, none⟩ = some (.slice ab mb cb) := by rw [hs6.cell HBA.out HBX.out]; exact hcb
    have hcr := crash_disk B w5 gd sd wd cd D hd6 ab mb cb b ((HRB.out.step hs6.right).less (fun k h => .inl h))
    rw [hd] at hcr
    have HW := Lib.hid hcr
    have HX6 := Lib.hid hx6
    have HD6 := Lib.hid hd6
    have HS6 := Lib.hid hs6
    clear hx5 hs5 hd6 hx6 hs6 hcr HW1
    go_wp2_with fail
    refine HW.out.mono ?_
    rintro e' w' ⟨rfl, hL⟩
    have HL := Lib.hid hL
    clear hL
    go_wp2_with fail
    go_ret
    exact ⟨rfl, LeftT.of_step (Step.ofBelow HBE.out) (LeftT.of_step HS6.out.right (turnD HD6.out HX6.out HL.out))⟩
  · have hcr := crash_disk B W0 gd sd wd cd D HT0.out.d ab mb cb b (HRB.out.less (fun k h => .inl h))
    rw [hd] at hcr
    have HW := Lib.hid hcr
    clear hcr
    rw [hd] at hc3
    go_enter Try.func15, Try.ntmps15
    refine wp_seq_h ?_
    intro K HK
    go_wp2_with fail
    rw [HW0.out]
    refine HK.out _ _ ?_
    clear HK K
    go_wp2_with fail
    refine HW.out.mono ?_
    rintro e' w' ⟨rfl, hL⟩
    have HL := Lib.hid hL
    clear hL
    go_wp2_with fail
    go_ret
    exact ⟨rfl, LeftT.of_step (Step.ofBelow HBE.out) (turnD HT0.out.d HT0.out.x HL.out)⟩

end Go.Proofs.Ytbimbgefclohlaa
