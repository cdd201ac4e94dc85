/- One part of the proof that postmarktop.TopDisked returns true for every input and that its input reads behind the call as it read before (theorem topDisked_holds in YtbimbgefclohlaaC31). The laws of this text have their conditions in their own statements; the theorem that is claimed has none. -/
import Derived.Test.YtbimbgefclohlaaC1
set_option linter.unusedVariables false
set_option linter.unusedSimpArgs false
namespace Go.Proofs.Ytbimbgefclohlaa
open Go.RowKit Go.Proofs.YtbimbgefclohlaaW.PrintWords Go.Proofs.YtbimbgefclohlaaW.PrintLast

theorem copy_region (w : World) (g g2 : Nat) (A A2 : Option Addr) (n c m c2 : Nat) (D : Dk) (cells2 : Array Value) (s0 s1 : Value) (Q : Exit → Act → World → Prop) (hP : ∀ c a w, ¬ Q (.panic c) a w)
    (h0 : w.drew.cell? ⟨g, 0, none⟩ = some (.slice A n c)) (h1 : w.drew.cell? ⟨g, 1, none⟩ = some (.slice A2 m c2)) (hg : g < w.drew.heap.size) (hg2 : w.drew.heap[g2]? = some (.cells cells2 49 (0, 0))) (hs0 : cells2[0]? = some s0) (hs1 : cells2[1]? = some s1)
    (hl1 : (secs D.stays).length = n * 64) (hn : n ≤ 64) (hc1 : 0 < n → ∃ ad, A = some ad ∧ ∀ j u, (secs D.stays)[j]? = some u → w.drew.cell? (ad.add j) = some u)
    (hl3 : (wrsC D.waits).length = m * 65) (hm : m ≤ 10000) (hc2 : ∀ w2, Below w.drew.heap.size w.drew w2 → 0 < m → ∃ ad, A2 = some ad ∧ ∀ j u, (wrsC D.waits)[j]? = some u → w2.cell? (ad.add j) = some u)
    (hone : ∀ u ∈ secs D.stays, u.oneCell' = true) (htwo : ∀ u ∈ wrsC D.waits, u.oneCell' = true)
    (u1 u2 u4 u5 u6 u7 u8 u9 u10 u11 u12 u13 u14 u15 u16 u17 u18 u19 u20 : Value)
    (hQ : ∀ x9 x10 x11 x12 x13 x14 x15 x16 x17 x18 x19 x20 A3 c3 A4 c4 w2 w3, w2.ownsRow w.drew.heap.size 51 64 (.slice A3 n c3) n (secs D.stays) → Below w.drew.heap.size w.drew w2 → w3.ownsRow w2.heap.size 53 65 (.slice A4 m c4) m (wrsC D.waits) → Below w2.heap.size w2 w3 →
      Q .normal { tmps := #[.pointer (some ⟨g, 0, none⟩), u1, u2, .pointer (some ⟨g2, 0, none⟩), u4, u5, u6, u7, u8, x9, x10, x11, x12, x13, x14, x15, x16, x17, x18, x19, x20], defers := [] } ((w3.setCell ⟨g2, 0, none⟩ (.slice A3 n c3)).setCell ⟨g2, 1, none⟩ (.slice A4 m c4))) :
    (Code.region 4 #[{ dst := some 9, op := Go.Op.move (Go.Operand.tmp 0), type := 28, pos := "disk.go:204", after := #[], guard := none }, { dst := some 10, op := Go.Op.nilCheck (Go.Operand.tmp 9), type := 0, pos := "disk.go:204", after := #[{ on := 0, ground := Go.Ground.data }], guard := none }, { dst := some 11, op := Go.Op.fieldAddr 49 (Go.Operand.tmp 10) 0, type := 0, pos := "disk.go:204", after := #[{ on := 1, ground := Go.Ground.data }], guard := none }, { dst := some 12, op := Go.Op.load 44 (Go.Operand.tmp 11), type := 44, pos := "disk.go:204", after := #[{ on := 2, ground := Go.Ground.data }], guard := none }, { dst := some 13, op := Go.Op.call { callee := Go.Callee.value (Go.Operand.func 19), args := #[Go.Operand.tmp 12], argTypes := #[44] }, type := 44, pos := "disk.go:204", after := #[{ on := 3, ground := Go.Ground.data }], guard := none }, { dst := some 14, op := Go.Op.move (Go.Operand.tmp 0), type := 28, pos := "disk.go:204", after := #[], guard := none }, { dst := some 15, op := Go.Op.nilCheck (Go.Operand.tmp 14), type := 0, pos := "disk.go:204", after := #[{ on := 5, ground := Go.Ground.data }], guard := none }, { dst := some 16, op := Go.Op.fieldAddr 49 (Go.Operand.tmp 15) 1, type := 0, pos := "disk.go:204", after := #[{ on := 6, ground := Go.Ground.data }], guard := none }, { dst := some 17, op := Go.Op.load 45 (Go.Operand.tmp 16), type := 45, pos := "disk.go:204", after := #[{ on := 7, ground := Go.Ground.data }], guard := none }, { dst := some 18, op := Go.Op.call { callee := Go.Callee.value (Go.Operand.func 20), args := #[Go.Operand.tmp 17], argTypes := #[45] }, type := 45, pos := "disk.go:204", after := #[{ on := 8, ground := Go.Ground.data }, { on := 4, ground := Go.Ground.chain }], guard := none }, { dst := some 19, op := Go.Op.fieldAddr 49 (Go.Operand.tmp 3) 0, type := 0, pos := "disk.go:204", after := #[{ on := 0, ground := Go.Ground.phase }, { on := 1, ground := Go.Ground.phase }, { on := 2, ground := Go.Ground.phase }, { on := 3, ground := Go.Ground.phase }, { on := 4, ground := Go.Ground.phase }, { on := 5, ground := Go.Ground.textOnly Go.Departure.lateStores }, { on := 6, ground := Go.Ground.textOnly Go.Departure.lateStoresUnsure }, { on := 7, ground := Go.Ground.textOnly Go.Departure.lateStoresUnsure }, { on := 8, ground := Go.Ground.phase }, { on := 9, ground := Go.Ground.phase }], guard := none }, { dst := none, op := Go.Op.store 44 (Go.Operand.tmp 19) (Go.Operand.tmp 13), type := 0, pos := "disk.go:204", after := #[{ on := 10, ground := Go.Ground.data }, { on := 4, ground := Go.Ground.data }, { on := 9, ground := Go.Ground.chain }, { on := 0, ground := Go.Ground.phase }, { on := 1, ground := Go.Ground.phase }, { on := 2, ground := Go.Ground.phase }, { on := 3, ground := Go.Ground.phase }, { on := 4, ground := Go.Ground.phase }, { on := 5, ground := Go.Ground.textOnly Go.Departure.lateStores }, { on := 6, ground := Go.Ground.textOnly Go.Departure.lateStoresUnsure }, { on := 7, ground := Go.Ground.textOnly Go.Departure.lateStoresUnsure }, { on := 8, ground := Go.Ground.phase }, { on := 9, ground := Go.Ground.phase }], guard := none }, { dst := some 20, op := Go.Op.fieldAddr 49 (Go.Operand.tmp 3) 1, type := 0, pos := "disk.go:204", after := #[{ on := 0, ground := Go.Ground.phase }, { on := 1, ground := Go.Ground.phase }, { on := 2, ground := Go.Ground.phase }, { on := 3, ground := Go.Ground.phase }, { on := 4, ground := Go.Ground.phase }, { on := 5, ground := Go.Ground.phase }, { on := 6, ground := Go.Ground.phase }, { on := 7, ground := Go.Ground.phase }, { on := 8, ground := Go.Ground.phase }, { on := 9, ground := Go.Ground.phase }, { on := 10, ground := Go.Ground.phase }, { on := 11, ground := Go.Ground.phase }], guard := none }, { dst := none, op := Go.Op.store 45 (Go.Operand.tmp 20) (Go.Operand.tmp 18), type := 0, pos := "disk.go:204", after := #[{ on := 12, ground := Go.Ground.data }, { on := 9, ground := Go.Ground.data }, { on := 11, ground := Go.Ground.chain }, { on := 0, ground := Go.Ground.phase }, { on := 1, ground := Go.Ground.phase }, { on := 2, ground := Go.Ground.phase }, { on := 3, ground := Go.Ground.phase }, { on := 4, ground := Go.Ground.phase }, { on := 5, ground := Go.Ground.phase }, { on := 6, ground := Go.Ground.phase }, { on := 7, ground := Go.Ground.phase }, { on := 8, ground := Go.Ground.phase }, { on := 9, ground := Go.Ground.phase }, { on := 10, ground := Go.Ground.phase }, { on := 11, ground := Go.Ground.phase }], guard := none }] true).wp Try.prog Q { tmps := #[.pointer (some ⟨g, 0, none⟩), u1, u2, .pointer (some ⟨g2, 0, none⟩), u4, u5, u6, u7, u8, u9, u10, u11, u12, u13, u14, u15, u16, u17, u18, u19, u20], defers := [] } w := by
  have hg2' : g2 < w.drew.heap.size := (Array.getElem?_eq_some_iff.1 hg2).1
  have HL1 := Lib.hid hl1
  have HL2 := Lib.hid (show n * 64 ≤ 140737488351232 by omega)
  have HL3 := Lib.hid hl3
  have HL4 := Lib.hid (show m * 72 ≤ 140737488351232 by omega)
  have HONE := Lib.hid hone
  have HTWO := Lib.hid htwo
  have HC1 := Lib.hid hc1
  have HC2 := Lib.hid hc2
  have hk : ∀ w2, Below w.drew.heap.size w.drew w2 → ∀ v, w.drew.cell? ⟨g, 0, none⟩ = some v → w2.cell? ⟨g, 0, none⟩ = some v := fun w2 hb v hv => (World.cell?_of_block (hb.block g hg)).trans hv
  have hk1 : ∀ w2, Below w.drew.heap.size w.drew w2 → ∀ v, w.drew.cell? ⟨g, 1, none⟩ = some v → w2.cell? ⟨g, 1, none⟩ = some v := fun w2 hb v hv => (World.cell?_of_block (hb.block g hg)).trans hv
  have hfr : ∀ w2 w3, Below w.drew.heap.size w.drew w2 → Below w2.heap.size w2 w3 → w3.frozen? ⟨g2, 0, none⟩ = false ∧ w3.frozen? ⟨g2, 1, none⟩ = false ∧ w3.cell? ⟨g2, 0, none⟩ = some s0 ∧ w3.cell? ⟨g2, 1, none⟩ = some s1 := fun w2 w3 h2 h3 => by
    have hh : w3.heap[g2]? = some (.cells cells2 49 (0, 0)) := by
      rw [h3.block g2 (Nat.lt_of_lt_of_le hg2' h2.size), h2.block g2 hg2']; exact hg2
    exact ⟨frozen_of_row w3 g2 0 _ 49 hh, frozen_of_row w3 g2 1 _ 49 hh, by rw [cell_of_row w3 g2 0 _ 49 (0, 0) hh]; exact hs0, by rw [cell_of_row w3 g2 1 _ 49 (0, 0) hh]; exact hs1⟩
  have HK := Lib.hid hk
  have HK1 := Lib.hid hk1
  have HFR := Lib.hid hfr
  have HQ := Lib.hid hQ
  clear hl1 hn hc1 hl3 hm hc2 hone htwo hk hk1 hfr hQ hg hg2 hg2' hs0 hs1
  refine start_ (n := 14) (S := fun w' => w'.cell? ⟨g, 0, none⟩ = some (.slice A n c) ∧ w'.cell? ⟨g, 1, none⟩ = some (.slice A2 m c2)) (ds := [9, 11, 13]) #[false, false, false, false, false, false, false, false, false, false, false, false, false, false] (by kernel_rfl) rfl rfl ⟨h0, h1⟩ (fun hHeld => ?_)
  refine pure_ (i := 0) (N := some 9) (v := ?_) (a' := ?_) #[true, false, false, false, false, false, false, false, false, false, false, false, false, false] rfl rfl (by kernel_rfl) (fun _ _ _ h => (hP _ _ _ h).elim) (Or.inl ⟨by rfl, ?_⟩) ?_ ?_
  rotate_left
  · intro w'
    go_simp
    with_reducible rfl
  rotate_left
  · simp only [Act.put, List.setIfInBounds_toArray, List.set_cons_zero, List.set_cons_succ, i64_w, i32_w]
    rfl
  refine pure_ (i := 1) (N := some 10) (v := ?_) (a' := ?_) #[true, true, false, false, false, false, false, false, false, false, false, false, false, false] rfl rfl (by kernel_rfl) (fun _ _ _ h => (hP _ _ _ h).elim) (Or.inl ⟨by rfl, ?_⟩) ?_ ?_
  rotate_left
  · intro w'
    go_simp
    with_reducible rfl
  rotate_left
  · simp only [Act.put, List.setIfInBounds_toArray, List.set_cons_zero, List.set_cons_succ, i64_w, i32_w]
    rfl
  refine pure_ (i := 2) (N := some 11) (v := ?_) (a' := ?_) #[true, true, true, false, false, false, false, false, false, false, false, false, false, false] rfl rfl (by kernel_rfl) (fun _ _ _ h => (hP _ _ _ h).elim) (Or.inl ⟨by rfl, ?_⟩) ?_ ?_
  rotate_left
  · intro w'
    go_simp
    with_reducible rfl
  rotate_left
  · simp only [Act.put, List.setIfInBounds_toArray, List.set_cons_zero, List.set_cons_succ, i64_w, i32_w]
    rfl
  refine pure_ (i := 5) (N := some 14) (v := ?_) (a' := ?_) #[true, true, true, false, false, true, false, false, false, false, false, false, false, false] rfl rfl (by kernel_rfl) (fun _ _ _ h => (hP _ _ _ h).elim) (Or.inl ⟨by rfl, ?_⟩) ?_ ?_
  rotate_left
  · intro w'
    go_simp
    with_reducible rfl
  rotate_left
  · simp only [Act.put, List.setIfInBounds_toArray, List.set_cons_zero, List.set_cons_succ, i64_w, i32_w]
    rfl
  refine pure_ (i := 6) (N := some 15) (v := ?_) (a' := ?_) #[true, true, true, false, false, true, true, false, false, false, false, false, false, false] rfl rfl (by kernel_rfl) (fun _ _ _ h => (hP _ _ _ h).elim) (Or.inl ⟨by rfl, ?_⟩) ?_ ?_
  rotate_left
  · intro w'
    go_simp
    with_reducible rfl
  rotate_left
  · simp only [Act.put, List.setIfInBounds_toArray, List.set_cons_zero, List.set_cons_succ, i64_w, i32_w]
    rfl
  refine pure_ (i := 7) (N := some 16) (v := ?_) (a' := ?_) #[true, true, true, false, false, true, true, true, false, false, false, false, false, false] rfl rfl (by kernel_rfl) (fun _ _ _ h => (hP _ _ _ h).elim) (Or.inl ⟨by rfl, ?_⟩) ?_ ?_
  rotate_left
  · intro w'
    go_simp
    with_reducible rfl
  rotate_left
  · simp only [Act.put, List.setIfInBounds_toArray, List.set_cons_zero, List.set_cons_succ, i64_w, i32_w]
    rfl
  refine take_ (i := 3) (N := some 12) (v := ?_) (a' := ?_) #[true, true, true, true, false, true, true, true, false, false, false, false, false, false] rfl rfl (by kernel_rfl) (fun _ _ _ h => (hP _ _ _ h).elim) (Or.inl ⟨by rfl, ?_⟩) hHeld ?_ ?_
  rotate_left
  · rintro w' ⟨s0, s1⟩
    go_simp
    with_reducible rfl
  rotate_left
  · simp only [Act.put, List.setIfInBounds_toArray, List.set_cons_zero, List.set_cons_succ, i64_w, i32_w]
    rfl
  refine take_ (i := 8) (N := some 17) (v := ?_) (a' := ?_) #[true, true, true, true, false, true, true, true, true, false, false, false, false, false] rfl rfl (by kernel_rfl) (fun _ _ _ h => (hP _ _ _ h).elim) (Or.inl ⟨by rfl, ?_⟩) hHeld ?_ ?_
  rotate_left
  · rintro w' ⟨s0, s1⟩
    go_simp
    with_reducible rfl
  rotate_left
  · simp only [Act.put, List.setIfInBounds_toArray, List.set_cons_zero, List.set_cons_succ, i64_w, i32_w]
    rfl
  refine one_ (i := 4) (N := some 13) #[true, true, true, true, true, true, true, true, true, false, false, false, false, false] rfl rfl (by kernel_rfl) (by decide) (fun K hK => ?_)
  refine goes_ Try.func19 (by kernel_rfl) rfl #[.slice A n c] (by rfl) rfl rfl (by simp only [List.map_toArray, List.map_cons, List.map_nil]; rfl) ?_
  with_reducible refine (clS_any w.drew A n c (secs D.stays) HL1.out HL2.out HONE.out HC1.out).mono ?_
  rintro e w2 ⟨v, rfl, hown1, hb1⟩
  refine ⟨_, rfl, ?_⟩
  obtain ⟨A3, c3, rfl⟩ := own_form hown1
  have HO1 := Lib.hid hown1
  have HB1 := Lib.hid hb1
  clear hown1 hb1
  refine hK.out _ _ ⟨HK.out w2 HB1.out _ hHeld.1, HK1.out w2 HB1.out _ hHeld.2⟩ (fun hHeld => ?_)
  clear hK K
  refine norm_ (a' := ?_) ?_ ?_
  rotate_left
  · show Act.put _ (some 13) _ = _
    simp only [Act.put, List.setIfInBounds_toArray, List.set_cons_zero, List.set_cons_succ, i64_w, i32_w]
    rfl
  refine last_ (i := 9) (N := some 18) #[true, true, true, true, true, true, true, true, true, true, false, false, false, false] rfl rfl (by kernel_rfl) (by decide) (fun K hK => ?_)
  refine goes_ Try.func20 (by kernel_rfl) rfl #[.slice A2 m c2] (by rfl) rfl rfl (by simp only [List.map_toArray, List.map_cons, List.map_nil]; rfl) ?_
  with_reducible refine (clW_any w2 A2 m c2 (wrsC D.waits) HL3.out HL4.out HTWO.out (HC2.out w2 HB1.out)).mono ?_
  rintro e w3 ⟨v, rfl, hown2, hb2⟩
  refine ⟨_, rfl, ?_⟩
  obtain ⟨A4, c4, rfl⟩ := own_form hown2
  obtain ⟨hf0, hf1, hs0, hs1⟩ := HFR.out w2 w3 HB1.out hb2
  have HO2 := Lib.hid hown2
  have HB2 := Lib.hid hb2
  clear hown2 hb2
  refine hK.out _ _ ?_
  clear hK K
  refine norm_ (a' := ?_) ?_ ?_
  rotate_left
  · show Act.put _ (some 18) _ = _
    simp only [Act.put, List.setIfInBounds_toArray, List.set_cons_zero, List.set_cons_succ, i64_w, i32_w]
    rfl
  refine pure_ (i := 10) (N := some 19) (v := ?_) (a' := ?_) #[true, true, true, true, true, true, true, true, true, true, true, false, false, false] rfl rfl (by kernel_rfl) (fun _ _ _ h => (hP _ _ _ h).elim) (Or.inl ⟨by rfl, ?_⟩) ?_ ?_
  rotate_left
  · intro w'
    go_simp
    with_reducible rfl
  rotate_left
  · simp only [Act.put, List.setIfInBounds_toArray, List.set_cons_zero, List.set_cons_succ, i64_w, i32_w]
    rfl
  refine last_ (i := 11) (N := none) #[true, true, true, true, true, true, true, true, true, true, true, true, false, false] rfl rfl (by kernel_rfl) (by decide) (fun K hK => ?_)
  refine skip_ (w1 := ?_) (by rfl) rfl ?_ ?_
  rotate_left
  · go_simp
    rfl
  refine hK.out _ _ ?_
  clear hK K
  refine pure_ (i := 12) (N := some 20) (v := ?_) (a' := ?_) #[true, true, true, true, true, true, true, true, true, true, true, true, true, false] rfl rfl (by kernel_rfl) (fun _ _ _ h => (hP _ _ _ h).elim) (Or.inl ⟨by rfl, ?_⟩) ?_ ?_
  rotate_left
  · intro w'
    go_simp
    with_reducible rfl
  rotate_left
  · simp only [Act.put, List.setIfInBounds_toArray, List.set_cons_zero, List.set_cons_succ, i64_w, i32_w]
    rfl
  refine last_ (i := 13) (N := none) #[true, true, true, true, true, true, true, true, true, true, true, true, true, true] rfl rfl (by kernel_rfl) (by decide) (fun K hK => ?_)
  refine skip_ (w1 := ?_) (by rfl) rfl ?_ ?_
  rotate_left
  · go_simp
    rfl
  refine hK.out _ _ ?_
  clear hK K
  refine done_ (by kernel_rfl) ?_

  exact HQ.out _ _ _ _ _ _ _ _ _ _ _ _ _ _ _ _ w2 w3 HO1.out HB1.out HO2.out HB2.out
end Go.Proofs.Ytbimbgefclohlaa
