/- One part of the proof that postmarktop.TopDisked returns true for every input and that its input reads behind the call as it read before (theorem topDisked_holds in YtbimbgefclohlaaC31). The laws of this text have their conditions in their own statements; the theorem that is claimed has none. -/
import Derived.Test.YtbimbgefclohlaaC21
set_option linter.unusedVariables false
set_option linter.unusedSimpArgs false
namespace Go.Proofs.Ytbimbgefclohlaa
open Go.RowKit Go.Proofs.YtbimbgefclohlaaW.PrintWords Go.Proofs.YtbimbgefclohlaaW.PrintLast


theorem putS_whole {S : List (List Int)} {q : Nat} {b : List Int} (hq : q < S.length) (hb : b.length = 64) (hs : ∀ y ∈ S, y.length = 64 ∧ byteL y) : putS S (q, b, 64) = S.set q b := by
  have h := (hs (S.getD q []) (by rw [List.getD_eq_getElem?_getD, List.getElem?_eq_getElem hq]; exact List.getElem_mem _)).1
  unfold putS
  dsimp only
  rw [List.take_of_length_le (by omega), List.drop_of_length_le (by omega), List.append_nil]
theorem flushed_x {B : Nat} {w wr : World} {g bs cap : Nat} {wv cv : Value} {D : Dk} (h : IsX B w g (.slice (some ⟨bs, 0, none⟩) D.stays.length cap) wv cv D) (hcap : D.stays.length ≤ cap) (hmax : cap ≤ maxLen)
    (hx : XR w wr bs cap D.stays.length ((upto (gelem D.waits) D.waits.length).foldl putS D.stays)) :
    IsX B (wr.setCell ⟨g, 1, none⟩ (.slice none 0 0)) g (.slice (some ⟨bs, 0, none⟩) D.stays.length cap) (.slice none 0 0) cv { D with stays := flushS D.stays D.waits, waits := [] } ∧
    Step (foot g (.slice (some ⟨bs, 0, none⟩) D.stays.length cap) wv) (foot g (.slice (some ⟨bs, 0, none⟩) D.stays.length cap) (.slice none 0 0)) w (wr.setCell ⟨g, 1, none⟩ (.slice none 0 0)) ∧ XB wr g (.slice (some ⟨bs, 0, none⟩) D.stays.length cap) wv cv D.room D.down D.steps := by
  obtain ⟨fl, fok⟩ := fold_ok (el := gelem D.waits) (N := D.waits.length) h.ok.s (gelem_ok h.ok.w) _ (Nat.le_refl _)
  have hgbs : g ≠ bs := fun e => (h.ne bs).1 rfl e.symm
  have hbB := (own_typed' h.s bs rfl).1
  have hxb : XB wr g (.slice (some ⟨bs, 0, none⟩) D.stays.length cap) wv cv D.room D.down D.steps := by
    unfold XB; rw [hx.kb.block g (h.lt g (.inl rfl)) hgbs]; exact h.xb
  have e1 := heap_setCell_same wr g 1 _ 40 (.slice none 0 0) hxb
  have hoth : ∀ k, k ≠ g → (wr.setCell ⟨g, 1, none⟩ (.slice none 0 0)).heap[k]? = wr.heap[k]? := fun k hk => heap_setCell_other _ _ _ _ hk
  refine ⟨⟨⟨by simp only [flushS, fl]; exact h.ok.n, fok, (fun p hp => by cases hp), ?_, h.ok.st, h.ok.c⟩, h.base, e1, ?_, World.ownsRow_nil _ _ _ _, ?_⟩, ?_, hxb⟩
  · have := h.ok.r; simp only [List.length_nil]; omega
  · have := hx.own (B := B) hbB fl hcap hmax (hoth bs (Ne.symm hgbs))
    exact this
  · refine h.c.keep (fun k cells hk => ?_)
    rw [hoth k ((h.ne k).2.2 cells hk)]
    refine hx.kb.block k (Array.getElem?_eq_some_iff.1 hk).1 (fun e => ?_)
    obtain ⟨_, c2, hc2⟩ := own_typed' h.s bs rfl
    rw [e, hc2] at hk
    cases hk
  · refine ⟨hx.kb.os, hx.kb.tape, hx.kb.output, by have := hx.kb.size; simp only [World.setCell, Array.size_modify]; omega, fun k hk hF => ?_, fun k hk => ?_⟩
    · rw [hoth k (fun e => hF (.inl e)), hx.kb.block k hk (fun e => hF (.inr (.inl (by rw [e]; rfl))))]
    · rcases hk with h1 | h1 | h1
      · exact .inl (.inl h1)
      · exact .inl (.inr (.inl h1))
      · simp [Value.ownBlock] at h1

set_option maxHeartbeats 8000000 in
set_option maxRecDepth 100000 in
theorem does_flush_down (B : Nat) (w : World) (gd gx : Nat) (sd wd cd sx wx cx : Value) (D : Dk) (hT : Two B w gd gx sd wd cd sx wx cx D) (kind by_ at_ : Int) (ab : Option Addr) (mb cb : Nat) (b : List Int) (hrb : RB w ab mb b (or2 (foot gd sd wd) (foot gx sx wx))) (hkd : 0 ≤ kind ∧ kind ≤ 255)
    (hk : kind % 8 = 3) (hd : D.down = true) :
    Calls Try.prog 15 #[.pointer (some ⟨gx, 0, none⟩), .pointer (some ⟨gd, 0, none⟩), .agg #[.int .u8 kind, .int .u8 by_, .int .i64 at_, .slice ab mb cb]] w fun e w' => e = .returned (.bool true) ∧ LeftT B w w' gd gx (or2 (foot gd sd wd) (foot gx sx wx)) ((flushD D).2) := by
  obtain ⟨W0, hW0⟩ : ∃ W0, w.alloc (.cells #[.int .u8 kind, .int .u8 by_, .int .i64 at_, .slice ab mb cb] 27) = W0 := ⟨_, rfl⟩
  have hbel : Below w.heap.size w W0 := by rw [← hW0]; exact (Below.refl _ _).alloc (Nat.le_refl _) _
  have hT0 := hT.below hbel
  have hrb0 := hrb.below hbel
  have ha : W0.heap[w.heap.size]? = some (.cells #[.int .u8 kind, .int .u8 by_, .int .i64 at_, .slice ab mb cb] 27 (0, 0)) := by rw [← hW0]; exact heap_alloc_new _ _
  have hc0 : W0.cell? ⟨w.heap.size, 0, none⟩ = some (.int .u8 kind) := by rw [cell_of_row W0 w.heap.size 0 _ 27 (0, 0) ha]; rfl
  have hc2 : W0.cell? ⟨w.heap.size, 2, none⟩ = some (.int .i64 at_) := by rw [cell_of_row W0 w.heap.size 2 _ 27 (0, 0) ha]; rfl
  have hcb : W0.cell? ⟨w.heap.size, 3, none⟩ = some (.slice ab mb cb) := by rw [cell_of_row W0 w.heap.size 3 _ 27 (0, 0) ha]; rfl
  have hc3 : W0.cell? ⟨gx, 3, none⟩ = some (.bool (!D.down)) := hT0.x.xb.cells.2.2.2.1
  have hcf : W0.frozen? ⟨gx, 3, none⟩ = false := hT0.x.xb.cells.2.2.2.2.2.2 3
  have hba : w.heap.size < W0.heap.size := (Array.getElem?_eq_some_iff.1 ha).1
  have hbd : ¬ foot gd sd wd w.heap.size := fun hk => by have := hT.d.lt _ hk; omega
  have hbx : ¬ foot gx sx wx w.heap.size := fun hk => by have := hT.x.lt _ hk; omega
  have j0 : (kind % 8 == 0) = decide (kind % 8 = 0) := rfl
  have j1 : (kind % 8 == 1) = decide (kind % 8 = 1) := rfl
  have j2 : (kind % 8 == 2) = decide (kind % 8 = 2) := rfl
  have j3 : (kind % 8 == 3) = decide (kind % 8 = 3) := rfl
  have j4 : (kind % 8 == 4) = decide (kind % 8 = 4) := rfl
  have j5 : (kind % 8 == 5) = decide (kind % 8 = 5) := rfl
  simp only [hk] at j0 j1 j2 j3 j4 j5
  have HT0 := Lib.hid hT0
  have HRB := Lib.hid hrb0
  have HBE := Lib.hid hbel
  have HA := Lib.hid ha
  have HW0 := Lib.hid hW0
  have HBA := Lib.hid hba
  have HBD := Lib.hid hbd
  have HBX := Lib.hid hbx
  clear hT hrb hT0 hrb0 hbel ha hW0 hba hbd hbx
  have e : flushD D = (171, D) := by unfold flushD; rw [if_pos hd]
  rw [e]
  have HW := Lib.hid (flush_disk B W0 gd sd wd cd D HT0.out.d)
  rw [e] at HW
  rw [hd] at hc3
  go_enter Try.func15, Try.ntmps15
  refine wp_seq_h ?_
  intro K HK
  go_wp2_with fail
  rw [HW0.out]
  refine HK.out _ _ ?_
  clear HK K
  go_wp2_with fail
  refine HW.out.mono ?_
  rintro e' w' ⟨rfl, hL⟩
  have HL := Lib.hid hL
  clear hL
  go_wp2_with fail
  go_ret
  exact ⟨rfl, LeftT.of_step (Step.ofBelow HBE.out) (turnD HT0.out.d HT0.out.x HL.out)⟩

set_option maxHeartbeats 8000000 in
set_option maxRecDepth 100000 in
theorem does_flush_step (B : Nat) (w : World) (gd gx : Nat) (sd wd cd sx wx cx : Value) (D : Dk) (hT : Two B w gd gx sd wd cd sx wx cx D) (kind by_ at_ : Int) (ab : Option Addr) (mb cb : Nat) (b : List Int) (hrb : RB w ab mb b (or2 (foot gd sd wd) (foot gx sx wx))) (hkd : 0 ≤ kind ∧ kind ≤ 255)
    (hk : kind % 8 = 3) (hd : D.down = false) (hst : (stepD D).1 = true) :
    Calls Try.prog 15 #[.pointer (some ⟨gx, 0, none⟩), .pointer (some ⟨gd, 0, none⟩), .agg #[.int .u8 kind, .int .u8 by_, .int .i64 at_, .slice ab mb cb]] w fun e w' => e = .returned (.bool true) ∧ LeftT B w w' gd gx (or2 (foot gd sd wd) (foot gx sx wx)) ((flushD D).2) := by
  obtain ⟨W0, hW0⟩ : ∃ W0, w.alloc (.cells #[.int .u8 kind, .int .u8 by_, .int .i64 at_, .slice ab mb cb] 27) = W0 := ⟨_, rfl⟩
  have hbel : Below w.heap.size w W0 := by rw [← hW0]; exact (Below.refl _ _).alloc (Nat.le_refl _) _
  have hT0 := hT.below hbel
  have hrb0 := hrb.below hbel
  have ha : W0.heap[w.heap.size]? = some (.cells #[.int .u8 kind, .int .u8 by_, .int .i64 at_, .slice ab mb cb] 27 (0, 0)) := by rw [← hW0]; exact heap_alloc_new _ _
  have hc0 : W0.cell? ⟨w.heap.size, 0, none⟩ = some (.int .u8 kind) := by rw [cell_of_row W0 w.heap.size 0 _ 27 (0, 0) ha]; rfl
  have hc2 : W0.cell? ⟨w.heap.size, 2, none⟩ = some (.int .i64 at_) := by rw [cell_of_row W0 w.heap.size 2 _ 27 (0, 0) ha]; rfl
  have hcb : W0.cell? ⟨w.heap.size, 3, none⟩ = some (.slice ab mb cb) := by rw [cell_of_row W0 w.heap.size 3 _ 27 (0, 0) ha]; rfl
  have hc3 : W0.cell? ⟨gx, 3, none⟩ = some (.bool (!D.down)) := hT0.x.xb.cells.2.2.2.1
  have hcf : W0.frozen? ⟨gx, 3, none⟩ = false := hT0.x.xb.cells.2.2.2.2.2.2 3
  have hba : w.heap.size < W0.heap.size := (Array.getElem?_eq_some_iff.1 ha).1
  have hbd : ¬ foot gd sd wd w.heap.size := fun hk => by have := hT.d.lt _ hk; omega
  have hbx : ¬ foot gx sx wx w.heap.size := fun hk => by have := hT.x.lt _ hk; omega
  have j0 : (kind % 8 == 0) = decide (kind % 8 = 0) := rfl
  have j1 : (kind % 8 == 1) = decide (kind % 8 = 1) := rfl
  have j2 : (kind % 8 == 2) = decide (kind % 8 = 2) := rfl
  have j3 : (kind % 8 == 3) = decide (kind % 8 = 3) := rfl
  have j4 : (kind % 8 == 4) = decide (kind % 8 = 4) := rfl
  have j5 : (kind % 8 == 5) = decide (kind % 8 = 5) := rfl
  simp only [hk] at j0 j1 j2 j3 j4 j5
  have HT0 := Lib.hid hT0
  have HRB := Lib.hid hrb0
  have HBE := Lib.hid hbel
  have HA := Lib.hid ha
  have HW0 := Lib.hid hW0
  have HBA := Lib.hid hba
  have HBD := Lib.hid hbd
  have HBX := Lib.hid hbx
  clear hT hrb hT0 hrb0 hbel ha hW0 hba hbd hbx
  have e : flushD D = (171, (stepD D).2) := by unfold flushD; rw [if_neg (by simp [hd]), if_pos hst]
  rw [e]
  have HS := Lib.hid (step_x B W0 gx sx wx cx D HT0.out.x)
  rw [hst] at HS
  rw [hd] at hc3
  go_enter Try.func15, Try.ntmps15
  refine wp_seq_h ?_
  intro K HK
  go_wp2_with fail
  rw [HW0.out]
  refine HK.out _ _ ?_
  clear HK K
  go_wp2_with fail
  refine HS.out.mono ?_
  rintro e' w6 ⟨rfl, hLx⟩
  obtain ⟨sx6, wx6, cx6, hd6, hx6, hs6⟩ := HT0.out.turnX hLx
  clear hLx HS
  have HW := Lib.hid (flush_disk B w6 gd sd wd cd D hd6)
  rw [e] at HW
  have HX6 := Lib.hid hx6
  have HD6 := Lib.hid hd6
  have HS6 := Lib.hid hs6
  clear hx6 hd6 hs6
  go_wp2_with fail
  refine HW.out.mono ?_
  rintro e' w' ⟨rfl, hL⟩
  have HL := Lib.hid hL
  clear hL
  go_wp2_with fail
  go_ret
  exact ⟨rfl, LeftT.of_step (Step.ofBelow HBE.out) (LeftT.of_step HS6.out.right (turnD HD6.out HX6.out HL.out))⟩

set_option maxHeartbeats 8000000 in
set_option maxRecDepth 100000 in
theorem does_flush_go (B : Nat) (w : World) (gd gx : Nat) (sd wd cd sx wx cx : Value) (D : Dk) (hT : Two B w gd gx sd wd cd sx wx cx D) (kind by_ at_ : Int) (ab : Option Addr) (mb cb : Nat) (b : List Int) (hrb : RB w ab mb b (or2 (foot gd sd wd) (foot gx sx wx))) (hkd : 0 ≤ kind ∧ kind ≤ 255)
    (hk : kind % 8 = 3) (hd : D.down = false) (hst : (stepD D).1 = false) :
    Calls Try.prog 15 #[.pointer (some ⟨gx, 0, none⟩), .pointer (some ⟨gd, 0, none⟩), .agg #[.int .u8 kind, .int .u8 by_, .int .i64 at_, .slice ab mb cb]] w fun e w' => e = .returned (.bool true) ∧ LeftT B w w' gd gx (or2 (foot gd sd wd) (foot gx sx wx)) ((flushD D).2) := by
  obtain ⟨W0, hW0⟩ : ∃ W0, w.alloc (.cells #[.int .u8 kind, .int .u8 by_, .int .i64 at_, .slice ab mb cb] 27) = W0 := ⟨_, rfl⟩
  have hbel : Below w.heap.size w W0 := by rw [← hW0]; exact (Below.refl _ _).alloc (Nat.le_refl _) _
  have hT0 := hT.below hbel
  have hrb0 := hrb.below hbel
  have ha : W0.heap[w.heap.size]? = some (.cells #[.int .u8 kind, .int .u8 by_, .int .i64 at_, .slice ab mb cb] 27 (0, 0)) := by rw [← hW0]; exact heap_alloc_new _ _
  have hc0 : W0.cell? ⟨w.heap.size, 0, none⟩ = some (.int .u8 kind) := by rw [cell_of_row W0 w.heap.size 0 _ 27 (0, 0) ha]; rfl
  have hc2 : W0.cell? ⟨w.heap.size, 2, none⟩ = some (.int .i64 at_) := by rw [cell_of_row W0 w.heap.size 2 _ 27 (0, 0) ha]; rfl
  have hcb : W0.cell? ⟨w.heap.size, 3, none⟩ = some (.slice ab mb cb) := by rw [cell_of_row W0 w.heap.size 3 _ 27 (0, 0) ha]; rfl
  have hc3 : W0.cell? ⟨gx, 3, none⟩ = some (.bool (!D.down)) := hT0.x.xb.cells.2.2.2.1
  have hcf : W0.frozen? ⟨gx, 3, none⟩ = false := hT0.x.xb.cells.2.2.2.2.2.2 3
  have hba : w.heap.size < W0.heap.size := (Array.getElem?_eq_some_iff.1 ha).1
  have hbd : ¬ foot gd sd wd w.heap.size := fun hk => by have := hT.d.lt _ hk; omega
  have hbx : ¬ foot gx sx wx w.heap.size := fun hk => by have := hT.x.lt _ hk; omega
  have j0 : (kind % 8 == 0) = decide (kind % 8 = 0) := rfl
  have j1 : (kind % 8 == 1) = decide (kind % 8 = 1) := rfl
  have j2 : (kind % 8 == 2) = decide (kind % 8 = 2) := rfl
  have j3 : (kind % 8 == 3) = decide (kind % 8 = 3) := rfl
  have j4 : (kind % 8 == 4) = decide (kind % 8 = 4) := rfl
  have j5 : (kind % 8 == 5) = decide (kind % 8 = 5) := rfl
  simp only [hk] at j0 j1 j2 j3 j4 j5
  have HT0 := Lib.hid hT0
  have HRB := Lib.hid hrb0
  have HBE := Lib.hid hbel
  have HA := Lib.hid ha
  have HW0 := Lib.hid hW0
  have HBA := Lib.hid hba
  have HBD := Lib.hid hbd
  have HBX := Lib.hid hbx
  clear hT hrb hT0 hrb0 hbel ha hW0 hba hbd hbx
  have e : flushD D = (0, { (stepD D).2 with stays := flushS (stepD D).2.stays (stepD D).2.waits, waits := [] }) := by unfold flushD; rw [if_neg (by simp [hd]), if_neg (by simp [hst])]
  rw [e]
  have HS := Lib.hid (step_x B W0 gx sx wx cx D HT0.out.x)
  rw [hst] at HS
  generalize (stepD D).2 = D1 at *
  rw [hd] at hc3
  go_enter Try.func15, Try.ntmps15
  refine wp_seq_h ?_
  intro K HK
  go_wp2_with fail
  rw [HW0.out]
  refine HK.out _ _ ?_
  clear HK K
  go_wp2_with fail
  refine HS.out.mono ?_
  rintro e' w5 ⟨rfl, hLx⟩
  obtain ⟨sx5, wx5, cx5, hd5, hx5, hs5⟩ := HT0.out.turnX hLx
  clear hLx HS
  obtain ⟨bs, cap, cur, rfl, hbB, hs, hcap, hmax, hsz, ht⟩ := hx5.open_
  obtain ⟨aw, cw, rfl, hwc⟩ := wa_cells hx5.wt
  obtain ⟨k0, k1, k2, k3, k4, k5, kf⟩ := hx5.xb.cells
  have hn := hx5.ok.n
  have hk6 : D1.waits.length ≤ 10000 := by have := hx5.ok.r; omega
  have hgbs : gx ≠ bs := fun e => (hx5.ne bs).1 rfl e.symm
  have hglt := hx5.lt gx (.inl rfl)
  have hblt := hx5.lt bs (.inr (.inl rfl))
  have hbw : ∀ b, (Value.slice aw D1.waits.length cw).ownBlock = some b → b ≠ bs := fun b hb e => by
    obtain ⟨_, c2, hc2⟩ := own_typed' hx5.wt b hb
    rw [e, hs] at hc2; cases hc2
  have H := Lib.hid hx5
  have HWC := Lib.hid hwc
  have HBW := Lib.hid hbw
  have HS0 := Lib.hid (show XR w5 w5 bs cap D1.stays.length D1.stays from ⟨KB.refl _ _ _, cur, hs, hsz, by rw [Nat.mul_one] at ht; exact ht⟩)
  have HN := Lib.hid (And.intro hgbs (And.intro hglt (And.intro hblt (And.intro hbB (And.intro hcap hmax)))))
  have HK0 := Lib.hid k0
  have HS5 := Lib.hid hs5
  have HD5 := Lib.hid hd5
  clear hx5 hd5 hs5 hwc hs hbB hcap hmax hsz ht hbw hgbs hglt hblt
  go_wp2_with fail
  clear k0 k1 k2 k3 k4 k5 kf
  go_loopw [123] (fun i wr => ∃ k : Nat, k ≤ D1.waits.length ∧ i = .int .i64 k ∧ XR w5 wr bs cap D1.stays.length ((upto (gelem D1.waits) k).foldl putS D1.stays))
    (fun i _ => D1.waits.length - (intOf i).toNat)
  case atStart => exact ⟨0, Nat.zero_le _, rfl, HS0.out⟩
  case round =>
    obtain ⟨k, hkk, rfl, hxr⟩ := hrel
    have HX := Lib.hid hxr
    clear hxr
    by_cases hlt : k < D1.waits.length
    · obtain ⟨bw, rfl, hown, hbwlt, hcell⟩ := HWC.out (by omega)
      have hbwne := HBW.out bw hown
      have hcs0 := hcell k hlt
      have hge := gelem_ok H.out.ok.w k hlt
      have ege : gelem D1.waits k = ((D1.waits.getD k (0, [])).1, (D1.waits.getD k (0, [])).2, 64) := rfl
      obtain ⟨fl, fok⟩ := fold_ok (el := gelem D1.waits) (N := D1.waits.length) H.out.ok.s (gelem_ok H.out.ok.w) k hkk
      have efs := congrArg (List.foldl putS D1.stays) (upto_succ (gelem D1.waits) k)
      rw [List.foldl_append] at efs
      clear hcell
      generalize D1.waits.getD k (0, []) = p at *
      obtain ⟨p1, p2⟩ := p
      rw [ege] at hge efs
      dsimp only [List.foldl_cons, List.foldl_nil] at hge hcs0 efs
      obtain ⟨hcs0, hcs1⟩ := hcs0
      obtain ⟨hp1, ⟨hp2, hp3⟩, _⟩ := hge
      rw [putS_whole (by rw [fl]; exact hp1) hp2 fok] at efs
      have hw : ∀ p : Addr, p.block = bw → wr.cell? p = w5.cell? p := fun p hp => HX.out.kb.cell (by rw [hp]; exact hbwlt) (by rw [hp]; exact hbwne)
      have hc0' : wr.cell? ⟨bw, k * 2, none⟩ = some (.int .i64 (p1 : Int)) := (hw _ rfl).trans hcs0
      have hc1' : wr.cell? ⟨bw, k * 2 + 1, none⟩ = some (.string (strOfNums p2)) := (hw _ rfl).trans hcs1
      have hwn := HX.out.kb.size
      have EF := Lib.hid efs
      have HFL := Lib.hid (And.intro fl fok)
      have HP := Lib.hid hp1
      clear hcs0 hcs1 hw hown hbwlt hbwne efs ege fl fok hp1 hp2 hp3
      go_wp2_with fail
      rename_i Kx hKx
      obtain ⟨n1, n2, n3, n4, n5, n6⟩ := HN.out
      obtain ⟨r0, r1, r2⟩ := HX.out.reads n2 n1 HK0.out p1 (by rw [HFL.out.1]; exact HP.out) (.cells #[.int .i64 (p1 : Int), .string (strOfNums p2)] 61) n3
      refine r34 _ gx bs D1.stays.length cap wr.heap.size p1 (strOfNums p2) _ _ ?_ r0 ?_ ?_ r1 r2 HP.out hn.2 _ _ _ _ _ _ _ _ _ _ _ _ _ _ _ _ _ _ _ _ _ _ _ _ _ _ _ _ _ _ _ _ _ _ _ _ _ _ _ _ _ _ _ _ _ _ _ _ _ _ _ _ _ _ _ _ _ _ _ _ _ _ _ _ _ _ _ _ _ _ _ _ _ _ _ _ _ _ _ _ _ _ _ _ _ _ _ _ _ _ _ _ _ _ _ _ _ _ _ _ _ _ _ _ _ _ _ _ _ _ _ _ _ _ _ _ _ _ _ _ _ _ _ _ _ _ _ _ _ _ _ _ _ _ _ _ _ _ _ _ _ _ _ _ _ _ _ _ _ _ _ _ _ _ _ _ _ _ _ _ _ _ _ _ _ _ _ _ _ _ _ _ _ _ _ _ _ _ _ _ _ _ _ _ _ _ _ _ _ _ _ _ _ _ ?_
      · rintro c a w' ⟨_, h, _⟩; cases h
      · show (wr.alloc _).cell? _ = _
        rw [cell_of_row _ wr.heap.size 0 _ 61 (0, 0) (heap_alloc_new _ _)]; rfl
      · show (wr.alloc _).cell? _ = _
        rw [cell_of_row _ wr.heap.size 1 _ 61 (0, 0) (heap_alloc_new _ _)]; rfl
      intro x127 x128 x129 x130 x131 x132 x133 x134 x135
      have HX2 := Lib.hid (HX.out.next n3 p1 p2 (.cells #[.int .i64 (p1 : Int), .string (strOfNums p2)] 61))
      clear n1 n2 n3 n4 n5 n6 r0 r1 r2
      refine hKx _ _ ?_
      go_wp2_with fail
      go_roundw
      case rel =>
        refine ⟨k + 1, by omega, by simp, ?_⟩
        rw [EF.out]
        exact HX2.out
      case measure => simp [intOf]; omega
    · obtain rfl : k = D1.waits.length := by omega
      obtain ⟨hx6', hs6, hxb⟩ := flushed_x H.out HN.out.2.2.2.2.1 HN.out.2.2.2.2.2 HX.out
      have hd6 := HD5.out.step hs6 (fun k hk hk' => foot_apart HD5.out H.out k hk' hk) H.out.no5
      obtain ⟨k0, k1, k2, k3, k4, k5, kf⟩ := hxb.cells
      clear hxb
      have HW := Lib.hid (flush_disk B _ gd sd wd cd D hd6)
      rw [e] at HW
      have HX6 := Lib.hid hx6'
      have HD6 := Lib.hid hd6
      have HS6 := Lib.hid hs6
      clear hx6' hd6 hs6
      go_wp2_with fail
      refine HW.out.mono ?_
      rintro e' w' ⟨rfl, hL⟩
      have HL := Lib.hid hL
      clear hL
      go_wp2_with fail
      go_ret
      exact ⟨rfl, LeftT.of_step (Step.ofBelow HBE.out) (LeftT.of_step (HS5.out.right.trans HS6.out.right) (turnD HD6.out HX6.out HL.out))⟩

end Go.Proofs.Ytbimbgefclohlaa
