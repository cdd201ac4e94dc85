/- One part of the proof that postmarktop.TopDisked returns true for every input and that its input reads behind the call as it read before (theorem topDisked_holds in YtbimbgefclohlaaC31). The laws of this text have their conditions in their own statements; the theorem that is claimed has none. -/
import Derived.Test.YtbimbgefclohlaaC11
set_option linter.unusedVariables false
set_option linter.unusedSimpArgs false
namespace Go.Proofs.Ytbimbgefclohlaa
open Go.RowKit

theorem str_own {w : World} {base n : Nat} {v : Value} {b : List Int} (h : w.ownsRow base 5 1 v n (sec b)) : (convert 25 9 v).run Try.prog w = .ok (.string (strOfNums b)) w := by
  refine YtbimbgefclohlaaW.PrintWords.own_string (P := Try.prog) (e := 5) (xs := b) (n := n) (base := base) (e' := 5) Try.underlying25 Try.underlying5 Try.underlying9 ?_
  exact h

set_option maxHeartbeats 8000000 in
set_option maxRecDepth 100000 in
theorem told_x (Bd Bx : Nat) (w : World) (gd gx : Nat) (svd wvd cvd svx wvx cvx : Value) (D : Dk) (hD : IsDisk Bd w gd svd wvd cvd D) (hX : IsX Bx w gx svx wvx cvx D) (at_ : Int) :
    Calls Try.prog 13 #[.pointer (some ⟨gx, 0, none⟩), .pointer (some ⟨gd, 0, none⟩), .int .i64 at_] w fun e w' => e = .returned (.bool true) ∧ Below w.heap.size w w' := by
  obtain ⟨Ad, cd, rfl⟩ := own_form hD.s
  obtain ⟨Aw, cw, rfl⟩ := own_form hD.wt
  obtain ⟨Ax, cx, rfl⟩ := own_form hX.s
  obtain ⟨Awx, cwx, rfl⟩ := own_form hX.wt
  obtain ⟨k0, k1, k2, k3, k4, k5, kf⟩ := hX.xb.cells
  have hup := up_any w.drew gd Ad _ cd _ cvd D.room D.down D.steps hD.db hD.ok.n.1
  have hwa := waits_any w.drew gd Ad _ cd _ _ _ cvd D.room D.down D.steps hD.db hD.ok.n.1
  have hro := room_any w.drew gd Ad _ cd _ cvd D.room D.down D.steps hD.db hD.ok.n.1
  have HUP := Lib.hid hup
  have HWA := Lib.hid hwa
  have HRO := Lib.hid hro
  have HD := Lib.hid hD
  have HX := Lib.hid hX
  have hn := hX.ok.n
  have HK := Lib.hid (And.intro k0 (And.intro k1 (And.intro k2 k3)))
  clear hup hwa hro hD hX k0 k1 k2 k3 k4 k5 kf
  go_enter Try.func13, Try.ntmps13
  go_wp2_with fail
  rename_i Ky hKy
  refine told_region1 w gx gd at_ D.down _ _ _ D.room _ ?_ HK.out.2.2.2 HK.out.2.1 HK.out.2.2.1 HUP.out HWA.out HRO.out _ _ _ _ _ _ _ _ _ _ _ _ _ _ _ _ _ _ _ _ _ _ _ _ _ _ _ _ _ _ _ _ _ _ _ _ _ _ _ _ _ _ _ _ _ _ _ _ _ _ _ _ _ _ _ _ _ _ _ _ _ _ _ _ _ _ _ _ _ _ _ _ _ _ _ _ _ _ _ _ _ _ _ _ _ _ _ _ _ _ _ ?_
  · rintro c a w' ⟨_, h, _⟩; cases h
  intro x13 x14 x15 x16 x17 x18 x19 x20 x21 x22 x23 x24 x25 x26 x27 x28 x29 x30 x31 x32 x33 x34 x35 x36 x37
  refine hKy _ _ ?_
  clear hKy
  go_wp2_with fail
  rename_i Kz hKz
  refine told_region3 w.drew gx gd at_ _ _ _ _ ?_ HK.out.1 hn _ _ _ _ _ _ _ _ _ _ _ _ _ _ _ _ _ _ _ _ _ _ _ _ _ _ _ _ _ _ _ _ _ _ _ _ _ _ _ _ _ _ _ _ _ _ _ _ _ _ _ _ _ _ _ _ _ _ _ _ _ _ _ _ _ _ _ _ _ _ _ _ _ _ _ _ _ _ _ _ _ _ _ _ _ _ _ _ _ _ _ ?_
  · rintro c a w' ⟨_, h, _⟩; cases h
  intro y39 y40 y41 y42 y43 y44 y45 y46 y47 y48 y49 y50
  have hwrp : wrap64 ((D.stays.length : Int) - 1) = (D.stays.length : Int) - 1 := by unfold wrap64; omega
  rw [hwrp]
  clear hwrp
  obtain ⟨W1, hW1⟩ : ∃ W1, w.drew.drew.alloc (.cells #[.int .i64 at_, .int .i64 (-1), .int .i64 0, .int .i64 ((D.stays.length : Int) - 1), .int .i64 D.stays.length] 3) = W1 := ⟨_, rfl⟩
  have hsz : W1.heap.size = w.heap.size + 1 := by rw [← hW1, World.size_alloc]; rfl
  have hbel : Below w.heap.size w W1 := by rw [← hW1]; exact (((Below.refl _ w).drew).drew).alloc (Nat.le_refl _) _
  have hrow : W1.heap[w.heap.size]? = some (.cells #[.int .i64 at_, .int .i64 (-1), .int .i64 0, .int .i64 ((D.stays.length : Int) - 1), .int .i64 D.stays.length] 3 (0, 0)) := by rw [← hW1]; exact heap_alloc_new _ _
  rw [hW1]
  clear hW1
  have hsd : w.drew.drew.heap.size = w.heap.size := rfl
  rw [hsd]
  have HROW := Lib.hid hrow
  have HBEL := Lib.hid hbel
  clear hbel hrow hsd
  refine hKz _ _ ?_
  clear hKz
  go_wp2_with fail
  go_loopw [53] (fun i wr => ∃ k : Nat, k ≤ 5 ∧ i = .int .i64 k ∧ Below W1.heap.size W1 wr) (fun i _ => 5 - (intOf i).toNat)
  case atStart => exact ⟨0, by omega, rfl, Below.refl _ _⟩
  case round =>
    obtain ⟨k, hk, rfl, hbw⟩ := hrel
    have hbr : Below w.heap.size w wr := HBEL.out.trans (hbw.mono (by omega))
    have hIX := HX.out.below hbr
    have hID := HD.out.below hbr
    have hwn := hbw.size
    have HBW := Lib.hid hbw
    have HIX := Lib.hid hIX
    have HID := Lib.hid hID
    clear hbw hbr hIX hID
    by_cases hlt : k < 5
    · obtain ⟨kv, hkv⟩ : ∃ kv : Int, wr.cell? ⟨w.heap.size, k, none⟩ = some (.int .i64 kv) := by
        have hl : wr.heap[w.heap.size]? = _ := (HBW.out.block w.heap.size (by omega)).trans HROW.out
        rw [cell_of_row wr w.heap.size k _ 3 (0, 0) hl]
        match k, hlt with
        | 0, _ => exact ⟨_, rfl⟩
        | 1, _ => exact ⟨_, rfl⟩
        | 2, _ => exact ⟨_, rfl⟩
        | 3, _ => exact ⟨_, rfl⟩
        | 4, _ => exact ⟨_, rfl⟩
      obtain ⟨k0, k1, k2, k3, k4, k5, kf⟩ := HIX.out.xb.cells
      have hcv0 : (convert 25 9 (.slice none 0 0)).run Try.prog wr = .ok (.string { data := #[] }) wr := str_own (b := []) (World.ownsRow_nil wr 0 5 1)
      by_cases hd : D.down = true
      · have HR := Lib.hid (read_bad Bd wr gd _ _ cvd D HID.out kv (.inl hd))
        have e : (readD D kv).1 = 171 := by unfold readD; rw [if_pos hd]
        rw [e] at HR
        rw [hd] at k3
        clear e
        go_wp2_with fail
        refine HR.out.mono ?_
        rintro e w2 ⟨rfl, rfl⟩
        go_wp2_with fail
        go_roundw
        case rel => exact ⟨k + 1, by omega, by simp, HBW.out⟩
        case measure => simp [intOf]; omega
      · have hd' : D.down = false := by simpa using hd
        rw [hd'] at k3
        by_cases hb : kv < 0 ∨ (D.stays.length : Int) ≤ kv
        · have HR := Lib.hid (read_bad Bd wr gd _ _ cvd D HID.out kv (.inr hb))
          have e : (readD D kv).1 = 170 := by unfold readD; rw [if_neg hd, if_pos hb]
          rw [e] at HR
          clear e
          by_cases q0 : kv < 0
          · have q0' : decide (kv < 0) = true := by simpa using q0
            clear hb
            go_wp2_with fail
            refine HR.out.mono ?_
            rintro e w2 ⟨rfl, rfl⟩
            go_wp2_with fail
            go_roundw
            case rel => exact ⟨k + 1, by omega, by simp, HBW.out⟩
            case measure => simp [intOf]; omega
          · have q0' : decide (kv < 0) = false := by simpa using q0
            have q1 : (D.stays.length : Int) ≤ kv := by omega
            have q1' : decide ((D.stays.length : Int) ≤ kv) = true := by simpa using q1
            clear hb
            go_wp2_with fail
            refine HR.out.mono ?_
            rintro e w2 ⟨rfl, rfl⟩
            go_wp2_with fail
            go_roundw
            case rel => exact ⟨k + 1, by omega, by simp, HBW.out⟩
            case measure => simp [intOf]; omega
        · obtain ⟨q, rfl⟩ : ∃ q : Nat, kv = q := ⟨kv.toNat, by omega⟩
          have hq : q < D.stays.length := by omega
          have HR := Lib.hid (read_good Bd wr gd _ _ cvd D HID.out q hq hd')
          have e : (readD D q).2 = lastW (D.stays.getD q []) D.waits q D.waits.length := by
            unfold readD; rw [if_neg hd, if_neg hb]; rfl
          rw [e] at HR
          have q0' : decide ((q : Int) < 0) = false := by simp
          have q1' : decide ((D.stays.length : Int) ≤ q) = false := by simp; omega
          have hq' : ¬ D.stays.length ≤ q := by omega
          clear hb e
          generalize hL : lastW (D.stays.getD q []) D.waits q D.waits.length = L at *
          have HL := Lib.hid hL
          clear hL
          go_wp2_with fail
          refine HR.out.mono ?_
          rintro e w2 ⟨v, rfl, hown, hb2⟩
          obtain ⟨Av, cv, rfl⟩ := own_form hown
          have hX2 := HIX.out.below hb2
          obtain ⟨j0, j1, j2, j3, j4, j5, jf⟩ := hX2.xb.cells
          have HS := Lib.hid (seen_x Bx w2 gx _ _ cvx D hX2 q hq)
          rw [HL.out] at HS
          rw [hd'] at j3
          have HO := Lib.hid hown
          have HB2 := Lib.hid hb2
          clear hown hb2 hX2
          go_wp2_with fail
          refine HS.out.mono ?_
          rintro e w3 ⟨rfl, hb3⟩
          have hcv := str_own (own_same HO.out (fun k hk => hb3.block k (by
            obtain ⟨_, cs, hc⟩ := own_typed' HO.out k hk
            exact (Array.getElem?_eq_some_iff.1 hc).1)))
          have hst : strV L = .string (strOfNums L) := rfl
          rw [hst]
          have HB3 := Lib.hid hb3
          clear hb3 hst
          go_wp2_with fail
          go_roundw
          case rel => exact ⟨k + 1, by omega, by simp, HBW.out.trans ((HB2.out.trans (HB3.out.mono HB2.out.size)).mono hwn)⟩
          case measure => simp [intOf]; omega
    · obtain rfl : k = 5 := by omega
      go_wp2_with fail
      go_ret
      exact ⟨rfl, HBEL.out.trans (HBW.out.mono (by omega))⟩
end Go.Proofs.Ytbimbgefclohlaa
