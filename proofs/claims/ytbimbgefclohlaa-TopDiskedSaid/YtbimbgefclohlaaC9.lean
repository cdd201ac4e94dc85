/- One part of the proof that postmarktop.TopDisked returns true for every input and that its input reads behind the call as it read before (theorem topDisked_holds in YtbimbgefclohlaaC31). The laws of this text have their conditions in their own statements; the theorem that is claimed has none. -/
import Derived.Test.YtbimbgefclohlaaC8
set_option linter.unusedVariables false
set_option linter.unusedSimpArgs false
namespace Go.Proofs.Ytbimbgefclohlaa
open Go.RowKit Go.Proofs.YtbimbgefclohlaaW.PrintWords Go.Proofs.YtbimbgefclohlaaW.PrintLast

theorem twin_region (w : World) (g g2 : Nat) (A A2 A3 : Option Addr) (n c m c2 r c3 : Nat) (D : Dk) (cells2 : Array Value) (s0 s1 s5 : Value) (Q : Exit → Act → World → Prop) (hP : ∀ c a w, ¬ Q (.panic c) a w)
    (h0 : w.drew.cell? ⟨g, 0, none⟩ = some (.slice A n c)) (h1 : w.drew.cell? ⟨g, 1, none⟩ = some (.slice A2 m c2)) (h5 : w.drew.cell? ⟨g, 5, none⟩ = some (.slice A3 r c3)) (hg : g < w.drew.heap.size)
    (hg2 : w.drew.heap[g2]? = some (.cells cells2 40 (0, 0))) (hs0 : cells2[0]? = some s0) (hs1 : cells2[1]? = some s1) (hs5 : cells2[5]? = some s5)
    (hl1 : (stC D.stays).length = n * 1) (hl2 : (waC D.waits).length = m * 2) (hl3 : (sec D.choice).length = r * 1) (hsz : n ≤ 64 ∧ m ≤ 10000 ∧ r ≤ 140737488351232)
    (hc1 : ∀ w2, Below w.drew.heap.size w.drew w2 → 0 < n → ∃ ad, A = some ad ∧ ∀ j u, (stC D.stays)[j]? = some u → w2.cell? (ad.add j) = some u)
    (hc2 : ∀ w2, Below w.drew.heap.size w.drew w2 → 0 < m → ∃ ad, A2 = some ad ∧ ∀ j u, (waC D.waits)[j]? = some u → w2.cell? (ad.add j) = some u)
    (hc3 : ∀ w2, Below w.drew.heap.size w.drew w2 → 0 < r → ∃ ad, A3 = some ad ∧ ∀ j u, (sec D.choice)[j]? = some u → w2.cell? (ad.add j) = some u)
    (u1 u2 u4 u5 u6 u7 u8 u9 u10 u11 u12 u13 u14 u15 u16 u17 u18 u19 u20 u21 u22 u23 u24 : Value)
    (hQ : ∀ x7 x8 x9 x10 x11 x12 x13 x14 x15 x16 x17 x18 x19 x20 x21 x22 x23 x24 Aa ca Ab cb Ac cc w2 w3 w4, w2.ownsRow w.drew.heap.size 9 1 (.slice Aa n ca) n (stC D.stays) → Below w.drew.heap.size w.drew w2 → w3.ownsRow w2.heap.size 61 2 (.slice Ab m cb) m (waC D.waits) → Below w2.heap.size w2 w3 → w4.ownsRow w3.heap.size 5 1 (.slice Ac r cc) r (sec D.choice) → Below w3.heap.size w3 w4 → Q .normal { tmps := #[.pointer (some ⟨g, 0, none⟩), u1, u2, .pointer (some ⟨g2, 0, none⟩), u4, u5, u6, x7, x8, x9, x10, x11, x12, x13, x14, x15, x16, x17, x18, x19, x20, x21, x22, x23, x24], defers := [] } (((w4.setCell ⟨g2, 0, none⟩ (.slice Aa n ca)).setCell ⟨g2, 1, none⟩ (.slice Ab m cb)).setCell ⟨g2, 5, none⟩ (.slice Ac r cc))) :
    (Code.region 2 #[{ dst := some 7, op := Go.Op.move (Go.Operand.tmp 0), type := 36, pos := "top17m.go:150", after := #[], guard := none }, { dst := some 8, op := Go.Op.nilCheck (Go.Operand.tmp 7), type := 0, pos := "top17m.go:150", after := #[{ on := 0, ground := Go.Ground.data }], guard := none }, { dst := some 9, op := Go.Op.fieldAddr 40 (Go.Operand.tmp 8) 0, type := 0, pos := "top17m.go:150", after := #[{ on := 1, ground := Go.Ground.data }], guard := none }, { dst := some 10, op := Go.Op.load 37 (Go.Operand.tmp 9), type := 37, pos := "top17m.go:150", after := #[{ on := 2, ground := Go.Ground.data }], guard := none }, { dst := some 11, op := Go.Op.call { callee := Go.Callee.builtin Go.Builtin.append, args := #[Go.Operand.const (Go.Value.slice none 0 0), Go.Operand.tmp 10], argTypes := #[37, 37] }, type := 37, pos := "top17m.go:150", after := #[{ on := 3, ground := Go.Ground.data }], guard := none }, { dst := some 12, op := Go.Op.move (Go.Operand.tmp 0), type := 36, pos := "top17m.go:150", after := #[], guard := none }, { dst := some 13, op := Go.Op.nilCheck (Go.Operand.tmp 12), type := 0, pos := "top17m.go:150", after := #[{ on := 5, ground := Go.Ground.data }], guard := none }, { dst := some 14, op := Go.Op.fieldAddr 40 (Go.Operand.tmp 13) 1, type := 0, pos := "top17m.go:150", after := #[{ on := 6, ground := Go.Ground.data }], guard := none }, { dst := some 15, op := Go.Op.load 38 (Go.Operand.tmp 14), type := 38, pos := "top17m.go:150", after := #[{ on := 7, ground := Go.Ground.data }], guard := none }, { dst := some 16, op := Go.Op.call { callee := Go.Callee.builtin Go.Builtin.append, args := #[Go.Operand.const (Go.Value.slice none 0 0), Go.Operand.tmp 15], argTypes := #[38, 38] }, type := 38, pos := "top17m.go:150", after := #[{ on := 8, ground := Go.Ground.data }, { on := 4, ground := Go.Ground.chain }], guard := none }, { dst := some 17, op := Go.Op.move (Go.Operand.tmp 0), type := 36, pos := "top17m.go:150", after := #[], guard := none }, { dst := some 18, op := Go.Op.nilCheck (Go.Operand.tmp 17), type := 0, pos := "top17m.go:150", after := #[{ on := 10, ground := Go.Ground.data }], guard := none }, { dst := some 19, op := Go.Op.fieldAddr 40 (Go.Operand.tmp 18) 5, type := 0, pos := "top17m.go:150", after := #[{ on := 11, ground := Go.Ground.data }], guard := none }, { dst := some 20, op := Go.Op.load 25 (Go.Operand.tmp 19), type := 25, pos := "top17m.go:150", after := #[{ on := 12, ground := Go.Ground.data }], guard := none }, { dst := some 21, op := Go.Op.call { callee := Go.Callee.builtin Go.Builtin.append, args := #[Go.Operand.const (Go.Value.slice none 0 0), Go.Operand.tmp 20], argTypes := #[25, 25] }, type := 25, pos := "top17m.go:150", after := #[{ on := 13, ground := Go.Ground.data }, { on := 9, ground := Go.Ground.chain }], guard := none }, { dst := some 22, op := Go.Op.fieldAddr 40 (Go.Operand.tmp 3) 0, type := 0, pos := "top17m.go:150", after := #[{ on := 0, ground := Go.Ground.phase }, { on := 1, ground := Go.Ground.phase }, { on := 2, ground := Go.Ground.phase }, { on := 3, ground := Go.Ground.phase }, { on := 4, ground := Go.Ground.phase }, { on := 5, ground := Go.Ground.textOnly Go.Departure.lateStores }, { on := 6, ground := Go.Ground.textOnly Go.Departure.lateStoresUnsure }, { on := 7, ground := Go.Ground.textOnly Go.Departure.lateStoresUnsure }, { on := 8, ground := Go.Ground.phase }, { on := 9, ground := Go.Ground.phase }, { on := 10, ground := Go.Ground.textOnly Go.Departure.lateStores }, { on := 11, ground := Go.Ground.textOnly Go.Departure.lateStoresUnsure }, { on := 12, ground := Go.Ground.textOnly Go.Departure.lateStoresUnsure }, { on := 13, ground := Go.Ground.phase }, { on := 14, ground := Go.Ground.phase }], guard := none }, { dst := none, op := Go.Op.store 37 (Go.Operand.tmp 22) (Go.Operand.tmp 11), type := 0, pos := "top17m.go:150", after := #[{ on := 15, ground := Go.Ground.data }, { on := 4, ground := Go.Ground.data }, { on := 14, ground := Go.Ground.chain }, { on := 0, ground := Go.Ground.phase }, { on := 1, ground := Go.Ground.phase }, { on := 2, ground := Go.Ground.phase }, { on := 3, ground := Go.Ground.phase }, { on := 4, ground := Go.Ground.phase }, { on := 5, ground := Go.Ground.textOnly Go.Departure.lateStores }, { on := 6, ground := Go.Ground.textOnly Go.Departure.lateStoresUnsure }, { on := 7, ground := Go.Ground.textOnly Go.Departure.lateStoresUnsure }, { on := 8, ground := Go.Ground.phase }, { on := 9, ground := Go.Ground.phase }, { on := 10, ground := Go.Ground.textOnly Go.Departure.lateStores }, { on := 11, ground := Go.Ground.textOnly Go.Departure.lateStoresUnsure }, { on := 12, ground := Go.Ground.textOnly Go.Departure.lateStoresUnsure }, { on := 13, ground := Go.Ground.phase }, { on := 14, ground := Go.Ground.phase }], guard := none }, { dst := some 23, op := Go.Op.fieldAddr 40 (Go.Operand.tmp 3) 1, type := 0, pos := "top17m.go:150", after := #[{ on := 0, ground := Go.Ground.phase }, { on := 1, ground := Go.Ground.phase }, { on := 2, ground := Go.Ground.phase }, { on := 3, ground := Go.Ground.phase }, { on := 4, ground := Go.Ground.phase }, { on := 5, ground := Go.Ground.phase }, { on := 6, ground := Go.Ground.phase }, { on := 7, ground := Go.Ground.phase }, { on := 8, ground := Go.Ground.phase }, { on := 9, ground := Go.Ground.phase }, { on := 10, ground := Go.Ground.textOnly Go.Departure.lateStores }, { on := 11, ground := Go.Ground.textOnly Go.Departure.lateStoresUnsure }, { on := 12, ground := Go.Ground.textOnly Go.Departure.lateStoresUnsure }, { on := 13, ground := Go.Ground.phase }, { on := 14, ground := Go.Ground.phase }, { on := 15, ground := Go.Ground.phase }, { on := 16, ground := Go.Ground.phase }], guard := none }, { dst := none, op := Go.Op.store 38 (Go.Operand.tmp 23) (Go.Operand.tmp 16), type := 0, pos := "top17m.go:150", after := #[{ on := 17, ground := Go.Ground.data }, { on := 9, ground := Go.Ground.data }, { on := 16, ground := Go.Ground.chain }, { on := 0, ground := Go.Ground.phase }, { on := 1, ground := Go.Ground.phase }, { on := 2, ground := Go.Ground.phase }, { on := 3, ground := Go.Ground.phase }, { on := 4, ground := Go.Ground.phase }, { on := 5, ground := Go.Ground.phase }, { on := 6, ground := Go.Ground.phase }, { on := 7, ground := Go.Ground.phase }, { on := 8, ground := Go.Ground.phase }, { on := 9, ground := Go.Ground.phase }, { on := 10, ground := Go.Ground.textOnly Go.Departure.lateStores }, { on := 11, ground := Go.Ground.textOnly Go.Departure.lateStoresUnsure }, { on := 12, ground := Go.Ground.textOnly Go.Departure.lateStoresUnsure }, { on := 13, ground := Go.Ground.phase }, { on := 14, ground := Go.Ground.phase }, { on := 15, ground := Go.Ground.phase }, { on := 16, ground := Go.Ground.phase }], guard := none }, { dst := some 24, op := Go.Op.fieldAddr 40 (Go.Operand.tmp 3) 5, type := 0, pos := "top17m.go:150", after := #[{ on := 0, ground := Go.Ground.phase }, { on := 1, ground := Go.Ground.phase }, { on := 2, ground := Go.Ground.phase }, { on := 3, ground := Go.Ground.phase }, { on := 4, ground := Go.Ground.phase }, { on := 5, ground := Go.Ground.phase }, { on := 6, ground := Go.Ground.phase }, { on := 7, ground := Go.Ground.phase }, { on := 8, ground := Go.Ground.phase }, { on := 9, ground := Go.Ground.phase }, { on := 10, ground := Go.Ground.phase }, { on := 11, ground := Go.Ground.phase }, { on := 12, ground := Go.Ground.phase }, { on := 13, ground := Go.Ground.phase }, { on := 14, ground := Go.Ground.phase }, { on := 15, ground := Go.Ground.phase }, { on := 16, ground := Go.Ground.phase }, { on := 17, ground := Go.Ground.phase }, { on := 18, ground := Go.Ground.phase }], guard := none }, { dst := none, op := Go.Op.store 25 (Go.Operand.tmp 24) (Go.Operand.tmp 21), type := 0, pos := "top17m.go:150", after := #[{ on := 19, ground := Go.Ground.data }, { on := 14, ground := Go.Ground.data }, { on := 18, ground := Go.Ground.chain }, { on := 0, ground := Go.Ground.phase }, { on := 1, ground := Go.Ground.phase }, { on := 2, ground := Go.Ground.phase }, { on := 3, ground := Go.Ground.phase }, { on := 4, ground := Go.Ground.phase }, { on := 5, ground := Go.Ground.phase }, { on := 6, ground := Go.Ground.phase }, { on := 7, ground := Go.Ground.phase }, { on := 8, ground := Go.Ground.phase }, { on := 9, ground := Go.Ground.phase }, { on := 10, ground := Go.Ground.phase }, { on := 11, ground := Go.Ground.phase }, { on := 12, ground := Go.Ground.phase }, { on := 13, ground := Go.Ground.phase }, { on := 14, ground := Go.Ground.phase }, { on := 15, ground := Go.Ground.phase }, { on := 16, ground := Go.Ground.phase }, { on := 17, ground := Go.Ground.phase }, { on := 18, ground := Go.Ground.phase }], guard := none }] true).wp Try.prog Q { tmps := #[.pointer (some ⟨g, 0, none⟩), u1, u2, .pointer (some ⟨g2, 0, none⟩), u4, u5, u6, u7, u8, u9, u10, u11, u12, u13, u14, u15, u16, u17, u18, u19, u20, u21, u22, u23, u24], defers := [] } w := by
  obtain ⟨za, zsa, zia⟩ := info9
  obtain ⟨ia, ia1, ia2, ia3, ia4⟩ := info_parts' zia
  obtain ⟨zb, zsb, zib⟩ := info61
  obtain ⟨ib, ib1, ib2, ib3, ib4⟩ := info_parts' zib
  obtain ⟨zc, zsc, zic⟩ := info5
  obtain ⟨ic, ic1, ic2, ic3, ic4⟩ := info_parts' zic
  have Za := Lib.hid zsa
  have Zb := Lib.hid zsb
  have Zc := Lib.hid zsc
  have Ia1 := Lib.hid ia1
  have Ia2 := Lib.hid ia2
  have Ia3 := Lib.hid ia3
  have Ia4 := Lib.hid ia4
  have Ib1 := Lib.hid ib1
  have Ib2 := Lib.hid ib2
  have Ib3 := Lib.hid ib3
  have Ib4 := Lib.hid ib4
  have Ic1 := Lib.hid ic1
  have Ic2 := Lib.hid ic2
  have Ic3 := Lib.hid ic3
  have Ic4 := Lib.hid ic4
  have hg2' : g2 < w.drew.heap.size := (Array.getElem?_eq_some_iff.1 hg2).1
  have hk : ∀ w2, Below w.drew.heap.size w.drew w2 → ∀ i v, w.drew.cell? ⟨g, i, none⟩ = some v → w2.cell? ⟨g, i, none⟩ = some v := fun w2 hb i v hv => (World.cell?_of_block (hb.block g hg)).trans hv
  have hfr : ∀ w4, Below w.drew.heap.size w.drew w4 → w4.frozen? ⟨g2, 0, none⟩ = false ∧ w4.frozen? ⟨g2, 1, none⟩ = false ∧ w4.frozen? ⟨g2, 5, none⟩ = false ∧ w4.cell? ⟨g2, 0, none⟩ = some s0 ∧ w4.cell? ⟨g2, 1, none⟩ = some s1 ∧ w4.cell? ⟨g2, 5, none⟩ = some s5 := fun w4 h4 => by
    have hh : w4.heap[g2]? = some (.cells cells2 40 (0, 0)) := by rw [h4.block g2 hg2']; exact hg2
    exact ⟨frozen_of_row w4 g2 0 _ 40 hh, frozen_of_row w4 g2 1 _ 40 hh, frozen_of_row w4 g2 5 _ 40 hh, by rw [cell_of_row w4 g2 0 _ 40 (0, 0) hh]; exact hs0, by rw [cell_of_row w4 g2 1 _ 40 (0, 0) hh]; exact hs1, by rw [cell_of_row w4 g2 5 _ 40 (0, 0) hh]; exact hs5⟩
  have HK := Lib.hid hk
  have HFR := Lib.hid hfr
  have HQ := Lib.hid hQ
  have HLa := Lib.hid hl1
  have HLb := Lib.hid hl2
  have HLc := Lib.hid hl3
  have HSZ := Lib.hid hsz
  have HC1 := Lib.hid hc1
  have HC2 := Lib.hid hc2
  have HC3 := Lib.hid hc3
  have HONEa := Lib.hid (stC_one D.stays)
  have HONEb := Lib.hid (waC_one D.waits)
  have HONEc := Lib.hid (sec_one D.choice)
  have H0 := Lib.hid (And.intro h0 (And.intro h1 h5))
  clear zsa zia ia1 ia2 ia3 ia4 zsb zib ib1 ib2 ib3 ib4 zsc zic ic1 ic2 ic3 ic4 hk hfr hQ hl1 hl2 hl3 hsz hc1 hc2 hc3 hg hg2 hg2' hs0 hs1 hs5
  refine start_ (n := 21) (S := fun w' => w'.cell? ⟨g, 0, none⟩ = some (.slice A n c) ∧ w'.cell? ⟨g, 1, none⟩ = some (.slice A2 m c2) ∧ w'.cell? ⟨g, 5, none⟩ = some (.slice A3 r c3)) (ds := [14, 16, 18, 20]) #[false, false, false, false, false, false, false, false, false, false, false, false, false, false, false, false, false, false, false, false, false] (by kernel_rfl) rfl rfl ⟨h0, h1, h5⟩ (fun hHeld => ?_)
  refine pure_ (i := 0) (N := some 7) (v := ?_) (a' := ?_) #[true, false, false, false, false, false, false, false, false, false, false, false, false, false, false, false, false, false, false, false, false] rfl rfl (by kernel_rfl) (fun _ _ _ h => (hP _ _ _ h).elim) (Or.inl ⟨by rfl, ?_⟩) ?_ ?_
  rotate_left
  · intro w'
    go_simp
    with_reducible rfl
  rotate_left
  · simp only [Act.put, List.setIfInBounds_toArray, List.set_cons_zero, List.set_cons_succ, i64_w, i32_w]
    rfl
  refine pure_ (i := 1) (N := some 8) (v := ?_) (a' := ?_) #[true, true, false, false, false, false, false, false, false, false, false, false, false, false, false, false, false, false, false, false, false] rfl rfl (by kernel_rfl) (fun _ _ _ h => (hP _ _ _ h).elim) (Or.inl ⟨by rfl, ?_⟩) ?_ ?_
  rotate_left
  · intro w'
    go_simp
    with_reducible rfl
  rotate_left
  · simp only [Act.put, List.setIfInBounds_toArray, List.set_cons_zero, List.set_cons_succ, i64_w, i32_w]
    rfl
  refine pure_ (i := 2) (N := some 9) (v := ?_) (a' := ?_) #[true, true, true, false, false, false, false, false, false, false, false, false, false, false, false, false, false, false, false, false, false] rfl rfl (by kernel_rfl) (fun _ _ _ h => (hP _ _ _ h).elim) (Or.inl ⟨by rfl, ?_⟩) ?_ ?_
  rotate_left
  · intro w'
    go_simp
    with_reducible rfl
  rotate_left
  · simp only [Act.put, List.setIfInBounds_toArray, List.set_cons_zero, List.set_cons_succ, i64_w, i32_w]
    rfl
  refine pure_ (i := 5) (N := some 12) (v := ?_) (a' := ?_) #[true, true, true, false, false, true, false, false, false, false, false, false, false, false, false, false, false, false, false, false, false] rfl rfl (by kernel_rfl) (fun _ _ _ h => (hP _ _ _ h).elim) (Or.inl ⟨by rfl, ?_⟩) ?_ ?_
  rotate_left
  · intro w'
    go_simp
    with_reducible rfl
  rotate_left
  · simp only [Act.put, List.setIfInBounds_toArray, List.set_cons_zero, List.set_cons_succ, i64_w, i32_w]
    rfl
  refine pure_ (i := 6) (N := some 13) (v := ?_) (a' := ?_) #[true, true, true, false, false, true, true, false, false, false, false, false, false, false, false, false, false, false, false, false, false] rfl rfl (by kernel_rfl) (fun _ _ _ h => (hP _ _ _ h).elim) (Or.inl ⟨by rfl, ?_⟩) ?_ ?_
  rotate_left
  · intro w'
    go_simp
    with_reducible rfl
  rotate_left
  · simp only [Act.put, List.setIfInBounds_toArray, List.set_cons_zero, List.set_cons_succ, i64_w, i32_w]
    rfl
  refine pure_ (i := 7) (N := some 14) (v := ?_) (a' := ?_) #[true, true, true, false, false, true, true, true, false, false, false, false, false, false, false, false, false, false, false, false, false] rfl rfl (by kernel_rfl) (fun _ _ _ h => (hP _ _ _ h).elim) (Or.inl ⟨by rfl, ?_⟩) ?_ ?_
  rotate_left
  · intro w'
    go_simp
    with_reducible rfl
  rotate_left
  · simp only [Act.put, List.setIfInBounds_toArray, List.set_cons_zero, List.set_cons_succ, i64_w, i32_w]
    rfl
  refine pure_ (i := 10) (N := some 17) (v := ?_) (a' := ?_) #[true, true, true, false, false, true, true, true, false, false, true, false, false, false, false, false, false, false, false, false, false] rfl rfl (by kernel_rfl) (fun _ _ _ h => (hP _ _ _ h).elim) (Or.inl ⟨by rfl, ?_⟩) ?_ ?_
  rotate_left
  · intro w'
    go_simp
    with_reducible rfl
  rotate_left
  · simp only [Act.put, List.setIfInBounds_toArray, List.set_cons_zero, List.set_cons_succ, i64_w, i32_w]
    rfl
  refine pure_ (i := 11) (N := some 18) (v := ?_) (a' := ?_) #[true, true, true, false, false, true, true, true, false, false, true, true, false, false, false, false, false, false, false, false, false] rfl rfl (by kernel_rfl) (fun _ _ _ h => (hP _ _ _ h).elim) (Or.inl ⟨by rfl, ?_⟩) ?_ ?_
  rotate_left
  · intro w'
    go_simp
    with_reducible rfl
  rotate_left
  · simp only [Act.put, List.setIfInBounds_toArray, List.set_cons_zero, List.set_cons_succ, i64_w, i32_w]
    rfl
  refine pure_ (i := 12) (N := some 19) (v := ?_) (a' := ?_) #[true, true, true, false, false, true, true, true, false, false, true, true, true, false, false, false, false, false, false, false, false] rfl rfl (by kernel_rfl) (fun _ _ _ h => (hP _ _ _ h).elim) (Or.inl ⟨by rfl, ?_⟩) ?_ ?_
  rotate_left
  · intro w'
    go_simp
    with_reducible rfl
  rotate_left
  · simp only [Act.put, List.setIfInBounds_toArray, List.set_cons_zero, List.set_cons_succ, i64_w, i32_w]
    rfl
  refine take_ (i := 3) (N := some 10) (v := ?_) (a' := ?_) #[true, true, true, true, false, true, true, true, false, false, true, true, true, false, false, false, false, false, false, false, false] rfl rfl (by kernel_rfl) (fun _ _ _ h => (hP _ _ _ h).elim) (Or.inl ⟨by rfl, ?_⟩) hHeld ?_ ?_
  rotate_left
  · rintro w' ⟨s0, s1, s2⟩
    go_simp
    with_reducible rfl
  rotate_left
  · simp only [Act.put, List.setIfInBounds_toArray, List.set_cons_zero, List.set_cons_succ, i64_w, i32_w]
    rfl
  refine take_ (i := 8) (N := some 15) (v := ?_) (a' := ?_) #[true, true, true, true, false, true, true, true, true, false, true, true, true, false, false, false, false, false, false, false, false] rfl rfl (by kernel_rfl) (fun _ _ _ h => (hP _ _ _ h).elim) (Or.inl ⟨by rfl, ?_⟩) hHeld ?_ ?_
  rotate_left
  · rintro w' ⟨s0, s1, s2⟩
    go_simp
    with_reducible rfl
  rotate_left
  · simp only [Act.put, List.setIfInBounds_toArray, List.set_cons_zero, List.set_cons_succ, i64_w, i32_w]
    rfl
  refine take_ (i := 13) (N := some 20) (v := ?_) (a' := ?_) #[true, true, true, true, false, true, true, true, true, false, true, true, true, true, false, false, false, false, false, false, false] rfl rfl (by kernel_rfl) (fun _ _ _ h => (hP _ _ _ h).elim) (Or.inl ⟨by rfl, ?_⟩) hHeld ?_ ?_
  rotate_left
  · rintro w' ⟨s0, s1, s2⟩
    go_simp
    with_reducible rfl
  rotate_left
  · simp only [Act.put, List.setIfInBounds_toArray, List.set_cons_zero, List.set_cons_succ, i64_w, i32_w]
    rfl
  refine one_ (i := 4) (N := some 11) #[true, true, true, true, true, true, true, true, true, false, true, true, true, true, false, false, false, false, false, false, false] rfl rfl (by kernel_rfl) (by decide) (fun K hK => ?_)
  rw [if_pos (by rfl)]
  refine wp_append_nil _ (.const (.slice none 0 0)) (.tmp 10) 37 (by rfl) w.drew.heap.size 9 ia za 1 16 Try.underlying37 Ia1.out Ia2.out Ia3.out Ia4.out Za.out (by decide) (by rfl) A n c (stC D.stays) (by rfl) HLa.out (HC1.out w.drew (Below.refl _ _)) HONEa.out (by have := HSZ.out; simp only [maxLen]; omega) (by have := HSZ.out; omega) (Nat.le_refl _) ?_
  intro Aa ca w2 hown1 hb1
  have HO1 := Lib.hid hown1
  have HB1 := Lib.hid hb1
  clear hown1 hb1
  refine hK.out _ _ ⟨HK.out w2 HB1.out _ _ H0.out.1, HK.out w2 HB1.out _ _ H0.out.2.1, HK.out w2 HB1.out _ _ H0.out.2.2⟩ (fun hHeld => ?_)
  clear hK K
  refine norm_ (a' := ?_) ?_ ?_
  rotate_left
  · show Act.put _ (some 11) _ = _
    simp only [Act.put, List.setIfInBounds_toArray, List.set_cons_zero, List.set_cons_succ, i64_w, i32_w]
    rfl
  refine one_ (i := 9) (N := some 16) #[true, true, true, true, true, true, true, true, true, true, true, true, true, true, false, false, false, false, false, false, false] rfl rfl (by kernel_rfl) (by decide) (fun K hK => ?_)
  rw [if_pos (by rfl)]
  refine wp_append_nil _ (.const (.slice none 0 0)) (.tmp 15) 38 (by rfl) w2.heap.size 61 ib zb 2 24 Try.underlying38 Ib1.out Ib2.out Ib3.out Ib4.out Zb.out (by decide) (by rfl) A2 m c2 (waC D.waits) (by rfl) HLb.out (HC2.out w2 HB1.out) HONEb.out (by have := HSZ.out; simp only [maxLen]; omega) (by have := HSZ.out; omega) (Nat.le_refl _) ?_
  intro Ab cb w3 hown2 hb2
  have HO2 := Lib.hid hown2
  have HB2 := Lib.hid hb2
  have HB12 := Lib.hid (HB1.out.trans (hb2.mono HB1.out.size))
  clear hown2 hb2
  refine hK.out _ _ ⟨HK.out w3 HB12.out _ _ H0.out.1, HK.out w3 HB12.out _ _ H0.out.2.1, HK.out w3 HB12.out _ _ H0.out.2.2⟩ (fun hHeld => ?_)
  clear hK K
  refine norm_ (a' := ?_) ?_ ?_
  rotate_left
  · show Act.put _ (some 16) _ = _
    simp only [Act.put, List.setIfInBounds_toArray, List.set_cons_zero, List.set_cons_succ, i64_w, i32_w]
    rfl
  refine last_ (i := 14) (N := some 21) #[true, true, true, true, true, true, true, true, true, true, true, true, true, true, true, false, false, false, false, false, false] rfl rfl (by kernel_rfl) (by decide) (fun K hK => ?_)
  rw [if_pos (by rfl)]
  refine wp_append_nil _ (.const (.slice none 0 0)) (.tmp 20) 25 (by rfl) w3.heap.size 5 ic zc 1 1 Try.underlying25 Ic1.out Ic2.out Ic3.out Ic4.out Zc.out (by decide) (by rfl) A3 r c3 (sec D.choice) (by rfl) HLc.out (HC3.out w3 HB12.out) HONEc.out (by have := HSZ.out; simp only [maxLen]; omega) (by have := HSZ.out; omega) (Nat.le_refl _) ?_
  intro Ac cc w4 hown3 hb3
  obtain ⟨hf0, hf1, hf5, hs0, hs1, hs5⟩ := HFR.out w4 (HB12.out.trans (hb3.mono HB12.out.size))
  have HO3 := Lib.hid hown3
  have HB3 := Lib.hid hb3
  clear hown3 hb3
  refine hK.out _ _ ?_
  clear hK K
  refine norm_ (a' := ?_) ?_ ?_
  rotate_left
  · show Act.put _ (some 21) _ = _
    simp only [Act.put, List.setIfInBounds_toArray, List.set_cons_zero, List.set_cons_succ, i64_w, i32_w]
    rfl
  refine pure_ (i := 15) (N := some 22) (v := ?_) (a' := ?_) #[true, true, true, true, true, true, true, true, true, true, true, true, true, true, true, true, false, false, false, false, false] rfl rfl (by kernel_rfl) (fun _ _ _ h => (hP _ _ _ h).elim) (Or.inl ⟨by rfl, ?_⟩) ?_ ?_
  rotate_left
  · intro w'
    go_simp
    with_reducible rfl
  rotate_left
  · simp only [Act.put, List.setIfInBounds_toArray, List.set_cons_zero, List.set_cons_succ, i64_w, i32_w]
    rfl
  refine last_ (i := 16) (N := none) #[true, true, true, true, true, true, true, true, true, true, true, true, true, true, true, true, true, false, false, false, false] rfl rfl (by kernel_rfl) (by decide) (fun K hK => ?_)
  refine skip_ (w1 := ?_) (by rfl) rfl ?_ ?_
  rotate_left
  · go_simp
    rfl
  refine hK.out _ _ ?_
  clear hK K
  refine pure_ (i := 17) (N := some 23) (v := ?_) (a' := ?_) #[true, true, true, true, true, true, true, true, true, true, true, true, true, true, true, true, true, true, false, false, false] rfl rfl (by kernel_rfl) (fun _ _ _ h => (hP _ _ _ h).elim) (Or.inl ⟨by rfl, ?_⟩) ?_ ?_
  rotate_left
  · intro w'
    go_simp
    with_reducible rfl
  rotate_left
  · simp only [Act.put, List.setIfInBounds_toArray, List.set_cons_zero, List.set_cons_succ, i64_w, i32_w]
    rfl
  refine last_ (i := 18) (N := none) #[true, true, true, true, true, true, true, true, true, true, true, true, true, true, true, true, true, true, true, false, false] rfl rfl (by kernel_rfl) (by decide) (fun K hK => ?_)
  refine skip_ (w1 := ?_) (by rfl) rfl ?_ ?_
  rotate_left
  · go_simp
    rfl
  refine hK.out _ _ ?_
  clear hK K
  refine pure_ (i := 19) (N := some 24) (v := ?_) (a' := ?_) #[true, true, true, true, true, true, true, true, true, true, true, true, true, true, true, true, true, true, true, true, false] rfl rfl (by kernel_rfl) (fun _ _ _ h => (hP _ _ _ h).elim) (Or.inl ⟨by rfl, ?_⟩) ?_ ?_
  rotate_left
  · intro w'
    go_simp
    with_reducible rfl
  rotate_left
  · simp only [Act.put, List.setIfInBounds_toArray, List.set_cons_zero, List.set_cons_succ, i64_w, i32_w]
    rfl
  refine last_ (i := 20) (N := none) #[true, true, true, true, true, true, true, true, true, true, true, true, true, true, true, true, true, true, true, true, true] rfl rfl (by kernel_rfl) (by decide) (fun K hK => ?_)
  refine skip_ (w1 := ?_) (by rfl) rfl ?_ ?_
  rotate_left
  · go_simp
    rfl
  refine hK.out _ _ ?_
  clear hK K
  refine done_ (by kernel_rfl) ?_

  exact HQ.out _ _ _ _ _ _ _ _ _ _ _ _ _ _ _ _ _ _ _ _ _ _ _ _ _ _ _ HO1.out HB1.out HO2.out HB2.out HO3.out HB3.out
end Go.Proofs.Ytbimbgefclohlaa
