/- One part of the proof that postmarktop.TopDisked returns true for every input and that its input reads behind the call as it read before (theorem topDisked_holds in YtbimbgefclohlaaC31). The laws of this text have their conditions in their own statements; the theorem that is claimed has none. -/
import Derived.Test.YtbimbgefclohlaaC20
set_option linter.unusedVariables false
set_option linter.unusedSimpArgs false
namespace Go.Proofs.Ytbimbgefclohlaa
open Go.RowKit Go.Proofs.YtbimbgefclohlaaW.PrintWords Go.Proofs.YtbimbgefclohlaaW.PrintLast

set_option maxHeartbeats 8000000 in
set_option maxRecDepth 100000 in
theorem does_boot (B : Nat) (w : World) (gd gx : Nat) (sd wd cd sx wx cx : Value) (D : Dk) (hT : Two B w gd gx sd wd cd sx wx cx D) (kind by_ at_ : Int) (ab : Option Addr) (mb cb : Nat) (b : List Int) (hrb : RB w ab mb b (or2 (foot gd sd wd) (foot gx sx wx))) (hkd : 0 ≤ kind ∧ kind ≤ 255)
    (hk : ¬ kind % 8 = 0 ∧ ¬ kind % 8 = 1 ∧ ¬ kind % 8 = 2 ∧ ¬ kind % 8 = 3 ∧ ¬ kind % 8 = 4 ∧ ¬ kind % 8 = 5) :
    Calls Try.prog 15 #[.pointer (some ⟨gx, 0, none⟩), .pointer (some ⟨gd, 0, none⟩), .agg #[.int .u8 kind, .int .u8 by_, .int .i64 at_, .slice ab mb cb]] w fun e w' => e = .returned (.bool true) ∧ LeftT B w w' gd gx (or2 (foot gd sd wd) (foot gx sx wx)) ({ D with down := false }) := by
  obtain ⟨W0, hW0⟩ : ∃ W0, w.alloc (.cells #[.int .u8 kind, .int .u8 by_, .int .i64 at_, .slice ab mb cb] 27) = W0 := ⟨_, rfl⟩
  have hbel : Below w.heap.size w W0 := by rw [← hW0]; exact (Below.refl _ _).alloc (Nat.le_refl _) _
  have hT0 := hT.below hbel
  have hrb0 := hrb.below hbel
  have ha : W0.heap[w.heap.size]? = some (.cells #[.int .u8 kind, .int .u8 by_, .int .i64 at_, .slice ab mb cb] 27 (0, 0)) := by rw [← hW0]; exact heap_alloc_new _ _
  have hc0 : W0.cell? ⟨w.heap.size, 0, none⟩ = some (.int .u8 kind) := by rw [cell_of_row W0 w.heap.size 0 _ 27 (0, 0) ha]; rfl
  have hc2 : W0.cell? ⟨w.heap.size, 2, none⟩ = some (.int .i64 at_) := by rw [cell_of_row W0 w.heap.size 2 _ 27 (0, 0) ha]; rfl
  have hcb : W0.cell? ⟨w.heap.size, 3, none⟩ = some (.slice ab mb cb) := by rw [cell_of_row W0 w.heap.size 3 _ 27 (0, 0) ha]; rfl
  have hc3 : W0.cell? ⟨gx, 3, none⟩ = some (.bool (!D.down)) := hT0.x.xb.cells.2.2.2.1
  have hcf : W0.frozen? ⟨gx, 3, none⟩ = false := hT0.x.xb.cells.2.2.2.2.2.2 3
  have hba : w.heap.size < W0.heap.size := (Array.getElem?_eq_some_iff.1 ha).1
  have hbd : ¬ foot gd sd wd w.heap.size := fun hk => by have := hT.d.lt _ hk; omega
  have hbx : ¬ foot gx sx wx w.heap.size := fun hk => by have := hT.x.lt _ hk; omega
  have j0 : (kind % 8 == 0) = decide (kind % 8 = 0) := rfl
  have j1 : (kind % 8 == 1) = decide (kind % 8 = 1) := rfl
  have j2 : (kind % 8 == 2) = decide (kind % 8 = 2) := rfl
  have j3 : (kind % 8 == 3) = decide (kind % 8 = 3) := rfl
  have j4 : (kind % 8 == 4) = decide (kind % 8 = 4) := rfl
  have j5 : (kind % 8 == 5) = decide (kind % 8 = 5) := rfl
  simp only [hk.1, hk.2.1, hk.2.2.1, hk.2.2.2.1, hk.2.2.2.2.1, hk.2.2.2.2.2] at j0 j1 j2 j3 j4 j5
  have HT0 := Lib.hid hT0
  have HRB := Lib.hid hrb0
  have HBE := Lib.hid hbel
  have HA := Lib.hid ha
  have HW0 := Lib.hid hW0
  have HBA := Lib.hid hba
  have HBD := Lib.hid hbd
  have HBX := Lib.hid hbx
  clear hT hrb hT0 hrb0 hbel ha hW0 hba hbd hbx
  obtain ⟨sx6, wx6, cx6, hd6, hx6, hs6⟩ := HT0.out.turnX ⟨_, _, _, HT0.out.x.set3 false, Step.set (p := ⟨gx, 3, none⟩) (.inl rfl) _⟩
  have HW := Lib.hid (boot_disk B _ gd sd wd cd D hd6)
  have HX6 := Lib.hid hx6
  have HD6 := Lib.hid hd6
  have HS6 := Lib.hid hs6
  clear hd6 hx6 hs6
  cases hd : D.down
  all_goals
    rw [hd] at hc3
    go_enter Try.func15, Try.ntmps15
    refine wp_seq_h ?_
    intro K HK
    go_wp2_with fail
    rw [HW0.out]
    refine HK.out _ _ ?_
    clear HK K
    go_wp2_with fail
    refine HW.out.mono ?_
    rintro e' w' ⟨rfl, hL⟩
    have HL := Lib.hid hL
    clear hL
    go_wp2_with fail
    go_ret
    exact ⟨rfl, LeftT.of_step (Step.ofBelow HBE.out) (LeftT.of_step HS6.out.right (turnD HD6.out HX6.out HL.out))⟩

set_option maxHeartbeats 8000000 in
set_option maxRecDepth 100000 in
theorem does_arm_bad (B : Nat) (w : World) (gd gx : Nat) (sd wd cd sx wx cx : Value) (D : Dk) (hT : Two B w gd gx sd wd cd sx wx cx D) (kind by_ at_ : Int) (ab : Option Addr) (mb cb : Nat) (b : List Int) (hrb : RB w ab mb b (or2 (foot gd sd wd) (foot gx sx wx))) (hkd : 0 ≤ kind ∧ kind ≤ 255)
    (hk : kind % 8 = 5) (hat : at_ < 1) :
    Calls Try.prog 15 #[.pointer (some ⟨gx, 0, none⟩), .pointer (some ⟨gd, 0, none⟩), .agg #[.int .u8 kind, .int .u8 by_, .int .i64 at_, .slice ab mb cb]] w fun e w' => e = .returned (.bool true) ∧ LeftT B w w' gd gx (or2 (foot gd sd wd) (foot gx sx wx)) (D) := by
  obtain ⟨W0, hW0⟩ : ∃ W0, w.alloc (.cells #[.int .u8 kind, .int .u8 by_, .int .i64 at_, .slice ab mb cb] 27) = W0 := ⟨_, rfl⟩
  have hbel : Below w.heap.size w W0 := by rw [← hW0]; exact (Below.refl _ _).alloc (Nat.le_refl _) _
  have hT0 := hT.below hbel
  have hrb0 := hrb.below hbel
  have ha : W0.heap[w.heap.size]? = some (.cells #[.int .u8 kind, .int .u8 by_, .int .i64 at_, .slice ab mb cb] 27 (0, 0)) := by rw [← hW0]; exact heap_alloc_new _ _
  have hc0 : W0.cell? ⟨w.heap.size, 0, none⟩ = some (.int .u8 kind) := by rw [cell_of_row W0 w.heap.size 0 _ 27 (0, 0) ha]; rfl
  have hc2 : W0.cell? ⟨w.heap.size, 2, none⟩ = some (.int .i64 at_) := by rw [cell_of_row W0 w.heap.size 2 _ 27 (0, 0) ha]; rfl
  have hcb : W0.cell? ⟨w.heap.size, 3, none⟩ = some (.slice ab mb cb) := by rw [cell_of_row W0 w.heap.size 3 _ 27 (0, 0) ha]; rfl
  have hc3 : W0.cell? ⟨gx, 3, none⟩ = some (.bool (!D.down)) := hT0.x.xb.cells.2.2.2.1
  have hcf : W0.frozen? ⟨gx, 3, none⟩ = false := hT0.x.xb.cells.2.2.2.2.2.2 3
  have hba : w.heap.size < W0.heap.size := (Array.getElem?_eq_some_iff.1 ha).1
  have hbd : ¬ foot gd sd wd w.heap.size := fun hk => by have := hT.d.lt _ hk; omega
  have hbx : ¬ foot gx sx wx w.heap.size := fun hk => by have := hT.x.lt _ hk; omega
  have j0 : (kind % 8 == 0) = decide (kind % 8 = 0) := rfl
  have j1 : (kind % 8 == 1) = decide (kind % 8 = 1) := rfl
  have j2 : (kind % 8 == 2) = decide (kind % 8 = 2) := rfl
  have j3 : (kind % 8 == 3) = decide (kind % 8 = 3) := rfl
  have j4 : (kind % 8 == 4) = decide (kind % 8 = 4) := rfl
  have j5 : (kind % 8 == 5) = decide (kind % 8 = 5) := rfl
  simp only [hk] at j0 j1 j2 j3 j4 j5
  have HT0 := Lib.hid hT0
  have HRB := Lib.hid hrb0
  have HBE := Lib.hid hbel
  have HA := Lib.hid ha
  have HW0 := Lib.hid hW0
  have HBA := Lib.hid hba
  have HBD := Lib.hid hbd
  have HBX := Lib.hid hbx
  clear hT hrb hT0 hrb0 hbel ha hW0 hba hbd hbx
  have HW := Lib.hid (arm_bad B W0 gd sd wd cd D HT0.out.d at_ hat ab mb cb)
  have hat' : decide (at_ < 1) = true := by simpa using hat
  cases hd : D.down
  all_goals
    rw [hd] at hc3
    go_enter Try.func15, Try.ntmps15
    refine wp_seq_h ?_
    intro K HK
    go_wp2_with fail
    rw [HW0.out]
    refine HK.out _ _ ?_
    clear HK K
    go_wp2_with fail
    refine HW.out.mono ?_
    rintro e' w' ⟨rfl, rfl⟩
    go_wp2_with fail
    go_ret
    exact ⟨rfl, LeftT.of_step (Step.ofBelow HBE.out) ⟨_, _, _, _, _, _, HT0.out, Step.refl _ _⟩⟩

set_option maxHeartbeats 8000000 in
set_option maxRecDepth 100000 in
theorem does_arm (B : Nat) (w : World) (gd gx : Nat) (sd wd cd sx wx cx : Value) (D : Dk) (hT : Two B w gd gx sd wd cd sx wx cx D) (kind by_ at_ : Int) (ab : Option Addr) (mb cb : Nat) (b : List Int) (hrb : RB w ab mb b (or2 (foot gd sd wd) (foot gx sx wx))) (hkd : 0 ≤ kind ∧ kind ≤ 255)
    (hk : kind % 8 = 5) (hat : 1 ≤ at_ ∧ at_ ≤ 9223372036854775807) :
    Calls Try.prog 15 #[.pointer (some ⟨gx, 0, none⟩), .pointer (some ⟨gd, 0, none⟩), .agg #[.int .u8 kind, .int .u8 by_, .int .i64 at_, .slice ab mb cb]] w fun e w' => e = .returned (.bool true) ∧ LeftT B w w' gd gx (or2 (foot gd sd wd) (foot gx sx wx)) ({ D with steps := at_, choice := b }) := by
  obtain ⟨W0, hW0⟩ : ∃ W0, w.alloc (.cells #[.int .u8 kind, .int .u8 by_, .int .i64 at_, .slice ab mb cb] 27) = W0 := ⟨_, rfl⟩
  have hbel : Below w.heap.size w W0 := by rw [← hW0]; exact (Below.refl _ _).alloc (Nat.le_refl _) _
  have hT0 := hT.below hbel
  have hrb0 := hrb.below hbel
  have ha : W0.heap[w.heap.size]? = some (.cells #[.int .u8 kind, .int .u8 by_, .int .i64 at_, .slice ab mb cb] 27 (0, 0)) := by rw [← hW0]; exact heap_alloc_new _ _
  have hc0 : W0.cell? ⟨w.heap.size, 0, none⟩ = some (.int .u8 kind) := by rw [cell_of_row W0 w.heap.size 0 _ 27 (0, 0) ha]; rfl
  have hc2 : W0.cell? ⟨w.heap.size, 2, none⟩ = some (.int .i64 at_) := by rw [cell_of_row W0 w.heap.size 2 _ 27 (0, 0) ha]; rfl
  have hcb : W0.cell? ⟨w.heap.size, 3, none⟩ = some (.slice ab mb cb) := by rw [cell_of_row W0 w.heap.size 3 _ 27 (0, 0) ha]; rfl
  have hc3 : W0.cell? ⟨gx, 3, none⟩ = some (.bool (!D.down)) := hT0.x.xb.cells.2.2.2.1
  have hcf : W0.frozen? ⟨gx, 3, none⟩ = false := hT0.x.xb.cells.2.2.2.2.2.2 3
  have hba : w.heap.size < W0.heap.size := (Array.getElem?_eq_some_iff.1 ha).1
  have hbd : ¬ foot gd sd wd w.heap.size := fun hk => by have := hT.d.lt _ hk; omega
  have hbx : ¬ foot gx sx wx w.heap.size := fun hk => by have := hT.x.lt _ hk; omega
  have j0 : (kind % 8 == 0) = decide (kind % 8 = 0) := rfl
  have j1 : (kind % 8 == 1) = decide (kind % 8 = 1) := rfl
  have j2 : (kind % 8 == 2) = decide (kind % 8 = 2) := rfl
  have j3 : (kind % 8 == 3) = decide (kind % 8 = 3) := rfl
  have j4 : (kind % 8 == 4) = decide (kind % 8 = 4) := rfl
  have j5 : (kind % 8 == 5) = decide (kind % 8 = 5) := rfl
  simp only [hk] at j0 j1 j2 j3 j4 j5
  have HT0 := Lib.hid hT0
  have HRB := Lib.hid hrb0
  have HBE := Lib.hid hbel
  have HA := Lib.hid ha
  have HW0 := Lib.hid hW0
  have HBA := Lib.hid hba
  have HBD := Lib.hid hbd
  have HBX := Lib.hid hbx
  clear hT hrb hT0 hrb0 hbel ha hW0 hba hbd hbx
  have hat' : decide (at_ < 1) = false := by simp; omega
  have HAT := Lib.hid hat
  have hl := HRB.out.l
  have HAL := Lib.hid (And.intro hc2 hcb)
  have hdd : D.down = true ∨ D.down = false := by cases D.down <;> simp
  rcases hdd with hd | hd
  all_goals
    rw [hd] at hc3
    go_enter Try.func15, Try.ntmps15
    refine wp_seq_h ?_
    intro K HK
    go_wp2_with fail
    rw [HW0.out]
    refine HK.out _ _ ?_
    clear HK K
    go_wp2_with fail
    rename_i Kr hKr
    refine r45 W0 gx w.heap.size at_ ab mb cb b _ _ _ _ ?_ HAL.out.1 HAL.out.2 (by rw [sec_length, HRB.out.l.1, Nat.mul_one]) HRB.out.l.2 (rb_cells (HRB.out.below ((Below.refl _ _).drew))) HT0.out.x.xb rfl rfl HBA.out _ _ _ _ _ _ _ _ _ _ _ _ _ _ _ _ _ _ _ _ _ _ _ _ _ _ _ _ _ _ _ _ _ _ _ _ _ _ _ _ _ _ _ _ _ _ _ _ _ _ _ _ _ _ _ _ _ _ _ _ _ _ _ _ _ _ _ _ _ _ _ _ _ _ _ _ _ _ _ _ _ _ _ _ _ _ _ _ _ _ _ _ _ _ _ _ _ _ _ _ _ _ _ _ _ _ _ _ _ _ _ _ _ _ _ _ _ _ _ _ _ _ _ _ _ _ _ _ _ _ _ _ _ _ _ _ _ _ _ _ _ _ _ _ _ _ _ _ _ _ _ _ _ _ _ _ _ _ _ _ _ _ _ _ _ _ _ _ _ _ _ _ _ _ _ _ _ _ _ _ _ _ _ _ _ _ _ _ _ _ _ _ _ _ ?_
    · rintro c a w' ⟨_, h, _⟩; cases h
    intro x172 x173 x174 x175 x176 x177 x178 x179 x180 x181 x182 Ac cc w2 hown hbel2
    have d0 : w2.heap[gx]? = _ := (hbel2.block gx (HT0.out.x.lt gx (.inl rfl))).trans HT0.out.x.xb
    have d1 := heap_setCell_same w2 gx 4 _ 40 (.int .i64 at_) d0
    have d2 := heap_setCell_same _ gx 5 _ 40 (.slice Ac mb cc) d1
    have hoth : ∀ k, k ≠ gx → ((w2.setCell ⟨gx, 4, none⟩ (.int .i64 at_)).setCell ⟨gx, 5, none⟩ (.slice Ac mb cc)).heap[k]? = w2.heap[k]? := fun k hk => by
      rw [heap_setCell_other _ _ _ _ hk, heap_setCell_other _ _ _ _ hk]
    have hx5 : IsX B ((w2.setCell ⟨gx, 4, none⟩ (.int .i64 at_)).setCell ⟨gx, 5, none⟩ (.slice Ac mb cc)) gx sx wx (.slice Ac mb cc) { D with steps := at_, choice := b } := by
      have hx := HT0.out.x.below (w' := w2) ⟨hbel2.os, hbel2.tape, hbel2.output, hbel2.size, hbel2.block⟩
      refine ⟨⟨hx.ok.n, hx.ok.s, hx.ok.w, hx.ok.r, ⟨by have := HAT.out.1; show (0 : Int) ≤ at_; omega, HAT.out.2⟩, HRB.out.b⟩, hx.base, d2, own_same hx.s (fun k hk => hoth k ((hx.ne k).1 hk)), own_same hx.wt (fun k hk => hoth k ((hx.ne k).2.1 hk)), ?_⟩
      refine ⟨Ac, cc, by rw [HRB.out.l.1], by rw [HRB.out.l.1]; exact HRB.out.l.2, .inr ?_⟩
      rw [HRB.out.l.1]
      refine own_mono (own_same hown (fun k hk => hoth k ?_)) (Nat.zero_le _)
      have h1 := (own_typed' hown k hk).1
      have h2 : gx < W0.heap.size := HT0.out.x.lt gx (.inl rfl)
      have h3 : W0.drew.heap.size = W0.heap.size := rfl
      omega
    have hs5 : Step (foot gx sx wx) (foot gx sx wx) W0 ((w2.setCell ⟨gx, 4, none⟩ (.int .i64 at_)).setCell ⟨gx, 5, none⟩ (.slice Ac mb cc)) :=
      (Step.ofBelow (w := W0) (w' := w2) ⟨hbel2.os, hbel2.tape, hbel2.output, hbel2.size, hbel2.block⟩).trans ((Step.set (p := ⟨gx, 4, none⟩) (.inl rfl) _).trans (Step.set (p := ⟨gx, 5, none⟩) (.inl rfl) _))
    clear d0 d1 d2 hoth hown hbel2
    generalize (w2.setCell ⟨gx, 4, none⟩ (.int .i64 at_)).setCell ⟨gx, 5, none⟩ (.slice Ac mb cc) = w5 at *
    obtain ⟨sx6, wx6, cx6, hd6, hx6, hs6⟩ := HT0.out.turnX ⟨_, _, _, hx5, hs5⟩
    have hcb6 : w5.cell? ⟨w.heap.size, 3, none⟩ = some (.slice ab mb cb) := by rw [hs6.cell HBA.out HBX.out]; exact HAL.out.2
    have hc26 : w5.cell? ⟨w.heap.size, 2, none⟩ = some (.int .i64 at_) := by rw [hs6.cell HBA.out HBX.out]; exact HAL.out.1
    have HW := Lib.hid (arm_disk B w5 gd sd wd cd D hd6 at_ HAT.out ab mb cb b ((HRB.out.step hs6.right).less (fun k h => .inl h)))
    have HX6 := Lib.hid hx6
    have HD6 := Lib.hid hd6
    have HS6 := Lib.hid hs6
    clear hx5 hs5 hd6 hx6 hs6
    refine hKr _ _ ?_
    clear hKr
    go_wp2_with fail
    refine HW.out.mono ?_
    rintro e' w' ⟨rfl, hL⟩
    have HL := Lib.hid hL
    clear hL
    go_wp2_with fail
    go_ret
    exact ⟨rfl, LeftT.of_step (Step.ofBelow HBE.out) (LeftT.of_step HS6.out.right (turnD HD6.out HX6.out HL.out))⟩

end Go.Proofs.Ytbimbgefclohlaa
