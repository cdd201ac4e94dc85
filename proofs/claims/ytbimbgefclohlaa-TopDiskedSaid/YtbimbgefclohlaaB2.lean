/- One part of the proof that postmarktop.TopDisked returns true for every input and that its input reads behind the call as it read before (theorem topDisked_holds in YtbimbgefclohlaaC31). The laws of this text have their conditions in their own statements; the theorem that is claimed has none. -/
import Derived.Test.YtbimbgefclohlaaB1
set_option linter.unusedVariables false
set_option linter.unusedSimpArgs false
namespace Go.Proofs.Ytbimbgefclohlaa
open Go.RowKit

theorem info_parts' {P : Program} {e : TypeId} {z : Value} {size bytes : Nat} (h : (P.info? e).map (fun i => (i.zero, i.size, i.bytes)) = some (some z, size, bytes)) : ∃ i, P.info? e = some i ∧ i.zero = some z ∧ i.size = size ∧ i.bytes = bytes := by
  obtain ⟨i, hi, hz⟩ := Option.map_eq_some_iff.1 h
  simp only [Prod.mk.injEq] at hz
  exact ⟨i, hi, hz.1, hz.2.1, hz.2.2⟩
theorem own_empty (w : World) (e : TypeId) (size : Nat) : (w.alloc (.cells #[] e)).ownsRow w.heap.size e size (.slice (some ⟨w.heap.size, 0, none⟩) 0 0) 0 [] := World.ownsRow_made w #[] 0 (Nat.le_refl _) (Nat.zero_le _) (by simp)

theorem new_cells {w : World} {ad : Addr} {n L : Nat} {o : Obj} {xs : List Value} (hc : 0 < n → ∃ a, some ad = some a ∧ ∀ j u, xs[j]? = some u → w.cell? (a.add j) = some u) (hl : xs.length = n * L) :
    ∀ j u, xs[j]? = some u → (w.alloc o).cell? (ad.add j) = some u := by
  intro j u hu
  have hj := (List.getElem?_eq_some_iff.1 hu).1
  have hn : 0 < n := by
    rcases Nat.eq_zero_or_pos n with h0 | h0
    · rw [hl, h0] at hj; simp at hj
    · exact h0
  obtain ⟨a, e, h⟩ := hc hn
  cases e
  have h2 := h j u hu
  rw [World.cell?_of_block (Below.heap_alloc w o _ (World.block_lt_of_cell? w _ h2))]
  exact h2

theorem clS_info : ∃ z : Value, z.cells.size = 64 ∧ (Try.prog.info? 51).map (fun i => (i.zero, i.size, i.bytes)) = some (some z, 64, 64) := ⟨((Try.prog.info? 51).bind (·.zero)).getD undef, by kernel_rfl, by kernel_rfl⟩
set_option maxHeartbeats 1000000 in
theorem clS_any (w : World) (A : Option Addr) (n c : Nat) (xs : List Value) (hl : xs.length = n * 64) (hb : n * 64 ≤ 140737488351232)
    (h1 : ∀ u ∈ xs, u.oneCell' = true) (hc : 0 < n → ∃ ad, A = some ad ∧ ∀ j u, xs[j]? = some u → w.cell? (ad.add j) = some u) :
    Calls Try.prog 19 #[.slice A n c] w fun e w' => ∃ v, e = .returned v ∧ w'.ownsRow w.heap.size 51 64 v n xs ∧ Below w.heap.size w w' := by
  have heq := fun (w : World) (A : Option Addr) (n c : Nat) => Lib.run_eql_slice_nil (P := Try.prog) w 44 51 A n c 0 0 Try.underlying44
  obtain ⟨z, zs, zi⟩ := clS_info
  obtain ⟨i0, i1, i2, i3, i4⟩ := info_parts' zi
  have ZS := Lib.hid zs
  clear zi zs
  have I1 := Lib.hid i1
  have I2 := Lib.hid i2
  have I3 := Lib.hid i3
  have I4 := Lib.hid i4
  have HL := Lib.hid hl
  have HC := Lib.hid hc
  have H1 := Lib.hid h1
  clear i1 i2 i3 i4 hl hc h1
  rcases A with _ | ad
  · have h0 : n = 0 := by
      rcases Nat.eq_zero_or_pos n with h0 | h0
      · exact h0
      · obtain ⟨ad, h, _⟩ := HC.out h0; cases h
    have hx : xs = [] := List.eq_nil_of_length_eq_zero (by simp [HL.out, h0])
    have h0' := Lib.hid h0
    have hx' := Lib.hid hx
    clear h0 hx
    go_enter Try.func19, Try.ntmps19
    go_wp2
    go_ret
    exact ⟨_, rfl, by rw [h0'.out, hx'.out]; exact World.ownsRow_nil _ _ _ _, Below.refl _ _⟩
  · go_enter Try.func19, Try.ntmps19
    go_wp2_with (at_builtin; refine wpList_append_own _ rfl (.tmp 5) (.tmp 6) 44 rfl w.heap.size 51 i0 z 64 64 Try.underlying44 I1.out I2.out I3.out I4.out ZS.out (by decide) _ 0 [] rfl (own_empty w 51 64) ad n c xs rfl HL.out (new_cells HC.out HL.out) H1.out (by simp only [maxLen]; omega) (by omega) (by simp) ?_; intro v' w1 hown hg _)
    go_ret
    exact ⟨_, rfl, by simpa using hown, (((Below.refl _ _).alloc (Nat.le_refl _) _)).grown hg (by simp) (fun k e => by cases e; exact Nat.le_refl _)⟩

theorem clW_info : ∃ z : Value, z.cells.size = 65 ∧ (Try.prog.info? 53).map (fun i => (i.zero, i.size, i.bytes)) = some (some z, 65, 72) := ⟨((Try.prog.info? 53).bind (·.zero)).getD undef, by kernel_rfl, by kernel_rfl⟩
set_option maxHeartbeats 1000000 in
theorem clW_any (w : World) (A : Option Addr) (n c : Nat) (xs : List Value) (hl : xs.length = n * 65) (hb : n * 72 ≤ 140737488351232)
    (h1 : ∀ u ∈ xs, u.oneCell' = true) (hc : 0 < n → ∃ ad, A = some ad ∧ ∀ j u, xs[j]? = some u → w.cell? (ad.add j) = some u) :
    Calls Try.prog 20 #[.slice A n c] w fun e w' => ∃ v, e = .returned v ∧ w'.ownsRow w.heap.size 53 65 v n xs ∧ Below w.heap.size w w' := by
  have heq := fun (w : World) (A : Option Addr) (n c : Nat) => Lib.run_eql_slice_nil (P := Try.prog) w 45 53 A n c 0 0 Try.underlying45
  obtain ⟨z, zs, zi⟩ := clW_info
  obtain ⟨i0, i1, i2, i3, i4⟩ := info_parts' zi
  have ZS := Lib.hid zs
  clear zi zs
  have I1 := Lib.hid i1
  have I2 := Lib.hid i2
  have I3 := Lib.hid i3
  have I4 := Lib.hid i4
  have HL := Lib.hid hl
  have HC := Lib.hid hc
  have H1 := Lib.hid h1
  clear i1 i2 i3 i4 hl hc h1
  rcases A with _ | ad
  · have h0 : n = 0 := by
      rcases Nat.eq_zero_or_pos n with h0 | h0
      · exact h0
      · obtain ⟨ad, h, _⟩ := HC.out h0; cases h
    have hx : xs = [] := List.eq_nil_of_length_eq_zero (by simp [HL.out, h0])
    have h0' := Lib.hid h0
    have hx' := Lib.hid hx
    clear h0 hx
    go_enter Try.func20, Try.ntmps20
    go_wp2
    go_ret
    exact ⟨_, rfl, by rw [h0'.out, hx'.out]; exact World.ownsRow_nil _ _ _ _, Below.refl _ _⟩
  · go_enter Try.func20, Try.ntmps20
    go_wp2_with (at_builtin; refine wpList_append_own _ rfl (.tmp 5) (.tmp 6) 45 rfl w.heap.size 53 i0 z 65 72 Try.underlying45 I1.out I2.out I3.out I4.out ZS.out (by decide) _ 0 [] rfl (own_empty w 53 65) ad n c xs rfl HL.out (new_cells HC.out HL.out) H1.out (by simp only [maxLen]; omega) (by omega) (by simp) ?_; intro v' w1 hown hg _)
    go_ret
    exact ⟨_, rfl, by simpa using hown, (((Below.refl _ _).alloc (Nat.le_refl _) _)).grown hg (by simp) (fun k e => by cases e; exact Nat.le_refl _)⟩

theorem clB_info : ∃ z : Value, z.cells.size = 1 ∧ (Try.prog.info? 5).map (fun i => (i.zero, i.size, i.bytes)) = some (some z, 1, 1) := ⟨((Try.prog.info? 5).bind (·.zero)).getD undef, by kernel_rfl, by kernel_rfl⟩
set_option maxHeartbeats 1000000 in
theorem clB_any (w : World) (A : Option Addr) (n c : Nat) (xs : List Value) (hl : xs.length = n * 1) (hb : n * 1 ≤ 140737488351232)
    (h1 : ∀ u ∈ xs, u.oneCell' = true) (hc : 0 < n → ∃ ad, A = some ad ∧ ∀ j u, xs[j]? = some u → w.cell? (ad.add j) = some u) :
    Calls Try.prog 29 #[.slice A n c] w fun e w' => ∃ v, e = .returned v ∧ w'.ownsRow w.heap.size 5 1 v n xs ∧ Below w.heap.size w w' := by
  have heq := fun (w : World) (A : Option Addr) (n c : Nat) => Lib.run_eql_slice_nil (P := Try.prog) w 25 5 A n c 0 0 Try.underlying25
  obtain ⟨z, zs, zi⟩ := clB_info
  obtain ⟨i0, i1, i2, i3, i4⟩ := info_parts' zi
  have ZS := Lib.hid zs
  clear zi zs
  have I1 := Lib.hid i1
  have I2 := Lib.hid i2
  have I3 := Lib.hid i3
  have I4 := Lib.hid i4
  have HL := Lib.hid hl
  have HC := Lib.hid hc
  have H1 := Lib.hid h1
  clear i1 i2 i3 i4 hl hc h1
  rcases A with _ | ad
  · have h0 : n = 0 := by
      rcases Nat.eq_zero_or_pos n with h0 | h0
      · exact h0
      · obtain ⟨ad, h, _⟩ := HC.out h0; cases h
    have hx : xs = [] := List.eq_nil_of_length_eq_zero (by simp [HL.out, h0])
    have h0' := Lib.hid h0
    have hx' := Lib.hid hx
    clear h0 hx
    go_enter Try.func29, Try.ntmps29
    go_wp2
    go_ret
    exact ⟨_, rfl, by rw [h0'.out, hx'.out]; exact World.ownsRow_nil _ _ _ _, Below.refl _ _⟩
  · go_enter Try.func29, Try.ntmps29
    go_wp2_with (at_builtin; refine wpList_append_own _ rfl (.tmp 5) (.tmp 6) 25 rfl w.heap.size 5 i0 z 1 1 Try.underlying25 I1.out I2.out I3.out I4.out ZS.out (by decide) _ 0 [] rfl (own_empty w 5 1) ad n c xs rfl HL.out (new_cells HC.out HL.out) H1.out (by simp only [maxLen]; omega) (by omega) (by simp) ?_; intro v' w1 hown hg _)
    go_ret
    exact ⟨_, rfl, by simpa using hown, (((Below.refl _ _).alloc (Nat.le_refl _) _)).grown hg (by simp) (fun k e => by cases e; exact Nat.le_refl _)⟩

end Go.Proofs.Ytbimbgefclohlaa
