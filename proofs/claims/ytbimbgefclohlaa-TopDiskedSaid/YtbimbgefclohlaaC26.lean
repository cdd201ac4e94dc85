/- One part of the proof that postmarktop.TopDisked returns true for every input and that its input reads behind the call as it read before (theorem topDisked_holds in YtbimbgefclohlaaC31). The laws of this text have their conditions in their own statements; the theorem that is claimed has none. -/
import Derived.Test.YtbimbgefclohlaaC25
set_option linter.unusedVariables false
set_option linter.unusedSimpArgs false
namespace Go.Proofs.Ytbimbgefclohlaa
open Go.RowKit

set_option maxHeartbeats 16000000 in
set_option maxRecDepth 100000 in
theorem disked_good (w : World) (n : Nat) (room : Int) (A : Option Addr) (m c : Nat) (cp : Int) (l : List A17) (hl : ActsIn w A m c l) (hcp : 0 ≤ cp ∧ cp ≤ 255) (h1 : 1 ≤ n) (h2 : n ≤ 64) (h3 : 0 ≤ room) (h4 : room ≤ 10000) :
    Calls Try.prog 5 #[.int .i64 n, .int .i64 room, .slice A m c, .int .u8 cp] w fun e w' => e = .returned (.bool true) ∧ Below w.heap.size w w' := by
  have HN := Lib.hid (new_good w n room h1 h2 h3 h4)
  have HL := Lib.hid hl
  have h1' : decide ((n : Int) < 1) = false := by simp; omega
  have h2' : decide (64 < (n : Int)) = false := by simp; omega
  have h3' : decide (room < 0) = false := by simp; omega
  have h4' : decide (10000 < room) = false := by simp; omega
  clear hl
  go_enter Try.func5, Try.ntmps5
  go_wp2_with fail
  refine HN.out.mono ?_
  rintro e w1 ⟨gd, sd, rfl, hD1, hb1⟩
  have HD1 := Lib.hid hD1
  have HB1 := Lib.hid hb1
  clear hD1 hb1
  go_wp2_with fail
  have hx0 : XMake w1 (w1.alloc (.cells #[.slice none 0 0, .slice none 0 0, .int .i64 room, .bool true, .int .i64 0, .slice none 0 0] 40)) 0 room none 0 :=
    ⟨heap_alloc_new _ _, World.ownsRow_nil _ _ _ _, (Below.refl _ _).alloc (Nat.le_refl _) _⟩
  have HX0 := Lib.hid hx0
  clear hx0
  go_loopw [73] (fun i wr => ∃ k : Nat, k ≤ n ∧ i = .int .i64 k ∧ ∃ As cs, XMake w1 wr k room As cs) (fun i _ => n - (intOf i).toNat)
  case atStart => exact ⟨0, Nat.zero_le _, rfl, _, _, HX0.out⟩
  case round =>
    obtain ⟨k, hk, rfl, As, cs, hxm⟩ := hrel
    have HXM := Lib.hid hxm
    clear hxm
    by_cases hlt : k < n
    · go_wp2_with fail
      rename_i Kr hKr
      obtain ⟨k0, k1, k2, k3, k4, k5, kf⟩ := HXM.out.xb.cells
      refine r7x wr w1.heap.size w1.heap.size As k cs (stC (List.replicate k (List.replicate 64 0))) _ _ ?_ k0 (by omega) HXM.out.xb rfl (fun e => by
        obtain ⟨_, c2, hc2⟩ := own_typed' HXM.out.own _ e.symm
        have h1 : wr.heap[w1.heap.size]? = _ := HXM.out.xb
        rw [h1] at hc2; cases hc2) HXM.out.own HXM.out.below.size _ _ _ _ _ _ _ _ _ _ _ _ _ _ _ _ _ _ _ _ _ _ _ _ _ _ _ _ _ _ _ _ _ _ _ _ _ _ _ _ _ _ _ _ _ _ _ _ _ _ _ _ _ _ _ _ _ _ _ _ _ _ _ _ _ _ _ _ _ _ _ _ _ _ _ _ _ _ _ _ _ _ _ _ _ _ _ _ _ _ _ _ _ _ _ _ _ _ _ _ _ _ _ _ _ _ _ _ _ _ _ _ _ _ _ _ _ _ _ _ _ _ _ _ _ _ _ _ _ _ _ _ _ _ _ _ _ _ _ _ _ _ _ _ _ _ _ _ _ _ _ _ _ _ _ _ _ _ _ _ ?_
      · rintro c a w' ⟨_, h, _⟩; cases h
      intro x75 x76 x77 x78 x79 x80 x81 x82 x83 x84 x85 A1 c1 w3 hown hgr hat
      have HXM2 := Lib.hid (HXM.out.next rfl hown hgr)
      clear hown hgr hat k0 k1 k2 k3 k4 k5 kf
      refine hKr _ _ ?_
      clear hKr
      go_wp2_with fail
      go_roundw
      case rel => exact ⟨k + 1, by omega, by simp, _, _, HXM2.out⟩
      case measure => simp [intOf]; omega
    · obtain rfl : k = n := by omega
      have hB1 : w.heap.size ≤ w1.heap.size := HB1.out.size
      have hIX := HXM.out.done (B := w.heap.size) hB1 HD1.out.ok
      have hID := HD1.out.below HXM.out.below
      have HTO := Lib.hid (told_x w.heap.size w.heap.size wr gd w1.heap.size _ _ _ _ _ _ _ hID hIX 0)
      have HT := Lib.hid (Two.mk hID hIX)
      have HBW := Lib.hid (HB1.out.trans (HXM.out.below.mono hB1))
      clear hIX hID hB1
      go_wp2_with fail
      refine HTO.out.mono ?_
      rintro e w4 ⟨rfl, hb4⟩
      have hT4 := HT.out.below hb4
      have hb5 := HBW.out.trans (hb4.mono HBW.out.size)
      have HT4 := Lib.hid hT4
      have HB5 := Lib.hid hb5
      clear hT4 hb4 hb5 HTO HT HBW
      go_wp2_with fail
      go_loopw [101] (fun i wr => ∃ k : Nat, k ≤ m ∧ i = .int .i64 k ∧ (∃ D sd wd cd sx wx cx, Two w.heap.size wr gd w1.heap.size sd wd cd sx wx cx D) ∧ Below w.heap.size w wr) (fun i _ => m - (intOf i).toNat)
      case atStart => exact ⟨0, Nat.zero_le _, rfl, ⟨_, _, _, _, _, _, _, HT4.out⟩, HB5.out⟩
      case round =>
        obtain ⟨k2, hk2, rfl, ⟨D, sd2, wd2, cd2, sx2, wx2, cx2, hT2⟩, hbw⟩ := hrel
        obtain ⟨wo, rfl⟩ : ∃ wo, wo = wr := ⟨wr, rfl⟩
        have HT2 := Lib.hid hT2
        have HBW := Lib.hid hbw
        clear hT2 hbw
        have hm63 := HL.out.2.2.1
        have hmc := HL.out.2.1
        by_cases hlt2 : k2 < m
        · obtain ⟨ad, rfl, hadb, hacts⟩ := HL.out.2.2.2 (by omega)
          obtain ⟨ab, mb, cb, hcell, hrb, hkd, hby, hat⟩ := hacts k2 hlt2
          generalize l.getD k2 ⟨0, 0, 0, []⟩ = x at *
          obtain ⟨kind, by_, at_, b⟩ := x
          dsimp only at hcell hrb hkd hby hat
          have hcell2 : ∀ j u, ([.int .u8 kind, .int .u8 by_, .int .i64 at_, .slice ab mb cb] : List Value)[j]? = some u → wo.cell? ((ad.add (k2 * 4)).add j) = some u := fun j u hu => by
            rw [HBW.out.cell (by rw [add_block, add_block]; exact hadb)]; exact hcell j u hu
          have HCELL := Lib.hid hcell2
          have HRB := Lib.hid hrb
          have HACT := Lib.hid hacts
          have HAD := Lib.hid hadb
          obtain ⟨W0, hW0⟩ : ∃ W0, wo.alloc (.cells #[.int .u8 kind, .int .u8 by_, .int .i64 at_, .slice ab mb cb] 27) = W0 := ⟨_, rfl⟩
          have hsz0 : W0.heap.size = wo.heap.size + 1 := by rw [← hW0, World.size_alloc]
          have hbl0 : Below wo.heap.size wo W0 := by rw [← hW0]; exact (Below.refl _ _).alloc (Nat.le_refl _) _
          have hrow : W0.heap[wo.heap.size]? = some (.cells #[.int .u8 kind, .int .u8 by_, .int .i64 at_, .slice ab mb cb] 27 (0, 0)) := by rw [← hW0]; exact heap_alloc_new _ _
          have hT0 := HT2.out.below hbl0
          have hbw0 := HBW.out.trans (hbl0.mono HBW.out.size)
          have HT0 := Lib.hid hT0
          have HROW := Lib.hid hrow
          have HBW0 := Lib.hid hbw0
          have HW0 := Lib.hid hW0
          have HS0 := Lib.hid hsz0
          clear hcell hcell2 hrb hacts hadb hW0 hbl0 hrow hT0 hbw0 hsz0
          have i27 : (Try.prog.info? 27).map (·.size) = some 4 := by kernel_rfl
          by_cases hic : (k2 : Int) = cp % 16
          · have hic' : ((k2 : Int) == cp % 16) = true := by simpa using hic
            have HIC := Lib.hid hic
            clear hic
            go_wp2_with (first | (refine wpList_load_agg rfl 27 (.tmp 104) rfl (ad.add (k2 * 4)) rfl [.int .u8 kind, .int .u8 by_, .int .i64 at_, .slice ab mb cb] _ HCELL.out Try.underlying27 rfl i27 ?_) | fail)
            rw [HW0.out]
            refine (copy_disk w.heap.size W0 gd _ _ _ D HT0.out.d).mono ?_
            rintro e' wa ⟨svc, wvc, rfl, hDc, hba⟩
            have HTW := Lib.hid (twin_x w.heap.size wa w1.heap.size _ _ _ D (HT0.out.x.below hba))
            have HDc := Lib.hid hDc
            have HBa := Lib.hid hba
            clear hDc hba
            go_wp2_with fail
            refine HTW.out.mono ?_
            rintro e' wb ⟨svy, wvy, cvy, rfl, hXy, hbb⟩
            have hTc : Two W0.heap.size wb W0.heap.size wa.heap.size svc wvc cd2 svy wvy cvy D := ⟨HDc.out.below hbb, hXy.less HBa.out.size⟩
            have hbe : Below W0.heap.size W0 wb := HBa.out.trans (hbb.mono HBa.out.size)
            have hrowb : wb.heap[wo.heap.size]? = _ := (hbe.block wo.heap.size (by have := HS0.out; omega)).trans HROW.out
            have hc2 : wb.cell? ⟨wo.heap.size, 2, none⟩ = some (.int .i64 at_) := by rw [cell_of_row wb wo.heap.size 2 _ 27 (0, 0) hrowb]; rfl
            have HTO := Lib.hid (told_x W0.heap.size W0.heap.size wb W0.heap.size wa.heap.size _ _ _ _ _ _ _ hTc.d hTc.x at_)
            have HTc := Lib.hid hTc
            have HBe := Lib.hid hbe
            clear hXy hbb hTc hbe hrowb HTW
            go_wp2_with fail
            refine HTO.out.mono ?_
            rintro e' wc ⟨rfl, hbc⟩
            have HTc2 := Lib.hid (HTc.out.below hbc)
            have HBe2 := Lib.hid (HBe.out.trans (hbc.mono HBe.out.size))
            have hsl := cut_acts wc ad m c k2 hlt2 hmc
            clear hbc hc2
            go_wp2_with fail
            clear hsl
            go_loopw [129] (fun i wr => ∃ j : Nat, j ≤ m - k2 ∧ i = .int .i64 j ∧ (∃ D' sd' wd' cd' sx' wx' cx', Two W0.heap.size wr W0.heap.size wa.heap.size sd' wd' cd' sx' wx' cx' D') ∧ Below W0.heap.size W0 wr) (fun i _ => (m - k2) - (intOf i).toNat)
            case atStart => exact ⟨0, Nat.zero_le _, rfl, ⟨_, _, _, _, _, _, _, HTc2.out⟩, HBe2.out⟩
            case round =>
              obtain ⟨j, hj, rfl, ⟨D', sd', wd', cd', sx', wx', cx', hTQ⟩, hbq⟩ := hrel
              have HTQ := Lib.hid hTQ
              have HBQ := Lib.hid hbq
              clear hTQ hbq
              by_cases hltj : j < m - k2
              · clear hkd hby hat HRB HCELL
                obtain ⟨ab, mb, cb, hcell, hrb, hkd, hby, hat⟩ := HACT.out (k2 + j) (by omega)
                generalize l.getD (k2 + j) ⟨0, 0, 0, []⟩ = x at *
                obtain ⟨kind, by_, at_, b⟩ := x
                dsimp only at hcell hrb hkd hby hat
                have hbwq : Below w.heap.size w wr := HBW0.out.trans (HBQ.out.mono HBW0.out.size)
                have hcell2 : ∀ i u, ([.int .u8 kind, .int .u8 by_, .int .i64 at_, .slice ab mb cb] : List Value)[i]? = some u → wr.cell? (((ad.add (k2 * 4)).add (j * 4)).add i) = some u := fun i u hu => by
                  rw [hbwq.cell (by rw [add_block, add_block, add_block]; exact HAD.out), YtbimbgefclohlaaW.PrintWords.add_add ad, show k2 * 4 + j * 4 = (k2 + j) * 4 from by omega]; exact hcell i u hu
                have HCELL := Lib.hid hcell2
                have HRB := Lib.hid hrb
                obtain ⟨Wq, hWq⟩ : ∃ Wq, wr.alloc (.cells #[.int .u8 kind, .int .u8 by_, .int .i64 at_, .slice ab mb cb] 27) = Wq := ⟨_, rfl⟩
                have hszq : Wq.heap.size = wr.heap.size + 1 := by rw [← hWq, World.size_alloc]
                have hblq : Below wr.heap.size wr Wq := by rw [← hWq]; exact (Below.refl _ _).alloc (Nat.le_refl _) _
                have hrowq : Wq.heap[wr.heap.size]? = some (.cells #[.int .u8 kind, .int .u8 by_, .int .i64 at_, .slice ab mb cb] 27 (0, 0)) := by rw [← hWq]; exact heap_alloc_new _ _
                have hTq := HTQ.out.below hblq
                have hbq0 := HBQ.out.trans (hblq.mono HBQ.out.size)
                have HTq := Lib.hid hTq
                have HROWq := Lib.hid hrowq
                have HBQ0 := Lib.hid hbq0
                have HBWq := Lib.hid (hbwq.trans (hblq.mono hbwq.size))
                have HWq := Lib.hid hWq
                have HSq := Lib.hid hszq
                clear hcell hcell2 hrb hWq hblq hrowq hTq hbq0 hszq hbwq
                go_wp2_with (first | (refine wpList_load_agg rfl 27 (.tmp 131) rfl ((ad.add (k2 * 4)).add (j * 4)) rfl [.int .u8 kind, .int .u8 by_, .int .i64 at_, .slice ab mb cb] _ HCELL.out Try.underlying27 rfl i27 ?_) | fail)
                rw [HWq.out]
                have hdx := does_x W0.heap.size Wq W0.heap.size wa.heap.size _ _ _ _ _ _ _ HTq.out kind by_ at_ ab mb cb b (HRB.out.low HBWq.out (fun k hk => Nat.le_trans HBW0.out.size (HTq.out.base k hk).1)) hkd hby hat
                refine hdx.mono ?_
                clear hdx
                rintro e' w3 ⟨rfl, hLT⟩
                obtain ⟨hbel3, hblk3, sd3, wd3, cd3, sx3, wx3, cx3, hT3⟩ := LeftT.open_ HTq.out hLT
                have hrow3 : w3.heap[wr.heap.size]? = some (.cells #[.int .u8 kind, .int .u8 by_, .int .i64 at_, .slice ab mb cb] 27 (0, 0)) := (hblk3 wr.heap.size (by have := HSq.out; omega) (fun hk => by have := (HTQ.out.base _ hk).2; omega)).trans HROWq.out
                have hc2 : w3.cell? ⟨wr.heap.size, 2, none⟩ = some (.int .i64 at_) := by rw [cell_of_row w3 wr.heap.size 2 _ 27 (0, 0) hrow3]; rfl
                have HTO := Lib.hid (told_x W0.heap.size W0.heap.size w3 W0.heap.size wa.heap.size _ _ _ _ _ _ _ hT3.d hT3.x at_)
                have HT3 := Lib.hid hT3
                have HBL3 := Lib.hid hbel3
                clear hLT hblk3 hrow3 hT3 hbel3
                go_wp2_with fail
                refine HTO.out.mono ?_
                rintro e' w4 ⟨rfl, hb4⟩
                have HT4x := Lib.hid (HT3.out.below hb4)
                have HB4 := Lib.hid hb4
                clear hb4
                go_wp2_with fail
                go_roundw
                case rel => exact ⟨j + 1, by omega, by simp, ⟨_, _, _, _, _, _, _, HT4x.out⟩, (HBQ0.out.trans HBL3.out).trans (HB4.out.mono (HBQ0.out.trans HBL3.out).size)⟩
                case measure => simp [intOf]; omega
              · obtain rfl : j = m - k2 := by omega
                have hrowq : wr.heap[wo.heap.size]? = _ := (HBQ.out.block wo.heap.size (by have := HS0.out; omega)).trans HROW.out
                have hq0 : wr.cell? ⟨wo.heap.size, 0, none⟩ = some (.int .u8 kind) := by rw [cell_of_row wr wo.heap.size 0 _ 27 (0, 0) hrowq]; rfl
                have hq1 : wr.cell? ⟨wo.heap.size, 1, none⟩ = some (.int .u8 by_) := by rw [cell_of_row wr wo.heap.size 1 _ 27 (0, 0) hrowq]; rfl
                have hq2 : wr.cell? ⟨wo.heap.size, 2, none⟩ = some (.int .i64 at_) := by rw [cell_of_row wr wo.heap.size 2 _ 27 (0, 0) hrowq]; rfl
                have hq3 : wr.cell? ⟨wo.heap.size, 3, none⟩ = some (.slice ab mb cb) := by rw [cell_of_row wr wo.heap.size 3 _ 27 (0, 0) hrowq]; rfl
                have HTX := Lib.hid (HT0.out.below HBQ.out)
                have HBWX := Lib.hid (HBW0.out.trans (HBQ.out.mono HBW0.out.size))
                have HROWX := Lib.hid hrowq
                clear hrowq
                go_wp2_with fail
                have hdx := does_x w.heap.size wr gd w1.heap.size _ _ _ _ _ _ _ HTX.out kind by_ at_ ab mb cb b (HRB.out.low HBWX.out (fun k hk => Nat.le_trans (Nat.le_refl _) (HTX.out.base k hk).1)) hkd hby hat
                refine hdx.mono ?_
                clear hdx
                rintro e' w3 ⟨rfl, hLT⟩
                obtain ⟨hbel3, hblk3, sd3, wd3, cd3, sx3, wx3, cx3, hT3⟩ := LeftT.open_ HTX.out hLT
                have hrow3 : w3.heap[wo.heap.size]? = some (.cells #[.int .u8 kind, .int .u8 by_, .int .i64 at_, .slice ab mb cb] 27 (0, 0)) := (hblk3 wo.heap.size (by have := HS0.out; have := HBQ.out.size; omega) (fun hk => by have := (HT2.out.base _ hk).2; omega)).trans HROWX.out
                have hc2 : w3.cell? ⟨wo.heap.size, 2, none⟩ = some (.int .i64 at_) := by rw [cell_of_row w3 wo.heap.size 2 _ 27 (0, 0) hrow3]; rfl
                have HTO := Lib.hid (told_x w.heap.size w.heap.size w3 gd w1.heap.size _ _ _ _ _ _ _ hT3.d hT3.x at_)
                have HT3 := Lib.hid hT3
                have HBL3 := Lib.hid hbel3
                clear hLT hblk3 hrow3 hT3 hbel3
                go_wp2_with fail
                refine HTO.out.mono ?_
                rintro e' w4 ⟨rfl, hb4⟩
                have HT4x := Lib.hid (HT3.out.below hb4)
                have HB4 := Lib.hid hb4
                clear hb4
                go_wp2_with fail
                go_roundw
                case rel => exact ⟨k2 + 1, by omega, by simp, ⟨_, _, _, _, _, _, _, HT4x.out⟩, (HBWX.out.trans HBL3.out).trans (HB4.out.mono (HBWX.out.trans HBL3.out).size)⟩
                case measure => simp [intOf]; omega
          · have hic' : ((k2 : Int) == cp % 16) = false := by simpa using hic
            clear hic
            go_wp2_with (first | (refine wpList_load_agg rfl 27 (.tmp 104) rfl (ad.add (k2 * 4)) rfl [.int .u8 kind, .int .u8 by_, .int .i64 at_, .slice ab mb cb] _ HCELL.out Try.underlying27 rfl i27 ?_) | fail)
            rw [HW0.out]
            have hdx := does_x w.heap.size W0 gd w1.heap.size _ _ _ _ _ _ _ HT0.out kind by_ at_ ab mb cb b (HRB.out.low HBW0.out (fun k hk => Nat.le_trans (Nat.le_refl _) (HT0.out.base k hk).1)) hkd hby hat
            refine hdx.mono ?_
            clear hdx
            rintro e' w3 ⟨rfl, hLT⟩
            obtain ⟨hbel3, hblk3, sd3, wd3, cd3, sx3, wx3, cx3, hT3⟩ := LeftT.open_ HT0.out hLT
            have hrow3 : w3.heap[wo.heap.size]? = some (.cells #[.int .u8 kind, .int .u8 by_, .int .i64 at_, .slice ab mb cb] 27 (0, 0)) := (hblk3 wo.heap.size (by have := HS0.out; omega) (fun hk => by have := (HT2.out.base _ hk).2; omega)).trans HROW.out
            have hc2 : w3.cell? ⟨wo.heap.size, 2, none⟩ = some (.int .i64 at_) := by rw [cell_of_row w3 wo.heap.size 2 _ 27 (0, 0) hrow3]; rfl
            have HTO := Lib.hid (told_x w.heap.size w.heap.size w3 gd w1.heap.size _ _ _ _ _ _ _ hT3.d hT3.x at_)
            have HT3 := Lib.hid hT3
            have HBL3 := Lib.hid hbel3
            clear hLT hblk3 hrow3 hT3 hbel3
            go_wp2_with fail
            refine HTO.out.mono ?_
            rintro e' w4 ⟨rfl, hb4⟩
            have HT4x := Lib.hid (HT3.out.below hb4)
            have HB4 := Lib.hid hb4
            clear hb4
            go_wp2_with fail
            go_roundw
            case rel => exact ⟨k2 + 1, by omega, by simp, ⟨_, _, _, _, _, _, _, HT4x.out⟩, (HBW0.out.trans HBL3.out).trans (HB4.out.mono (HBW0.out.trans HBL3.out).size)⟩
            case measure => simp [intOf]; omega
        · obtain rfl : k2 = m := by omega
          go_wp2_with fail
          go_ret
          exact ⟨rfl, HBW.out⟩
end Go.Proofs.Ytbimbgefclohlaa
