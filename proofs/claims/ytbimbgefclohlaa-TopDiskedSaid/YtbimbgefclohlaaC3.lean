/- One part of the proof that postmarktop.TopDisked returns true for every input and that its input reads behind the call as it read before (theorem topDisked_holds in YtbimbgefclohlaaC31). The laws of this text have their conditions in their own statements; the theorem that is claimed has none. -/
import Derived.Test.YtbimbgefclohlaaC2
set_option linter.unusedVariables false
set_option linter.unusedSimpArgs false
namespace Go.Proofs.Ytbimbgefclohlaa
open Go.RowKit

theorem own_cells {w : World} {base : Nat} {e : TypeId} {size n c : Nat} {A : Option Addr} {xs : List Value} (h : w.ownsRow base e size (.slice A n c) n xs) (hp : 0 < n) :
    ∃ b, A = some ⟨b, 0, none⟩ ∧ b < w.heap.size ∧ ∀ j u, xs[j]? = some u → w.cell? ((⟨b, 0, none⟩ : Addr).add j) = some u := by
  rcases h.2 with ⟨e, h0⟩ | ⟨b, cap, cur, e, h1, h2, h3, h4, h5, h6⟩
  · injection e with e1 e2 e3; omega
  · injection e with e1 e2 e3
    subst e1
    refine ⟨b, rfl, (Array.getElem?_eq_some_iff.1 h2).1, fun j u hu => ?_⟩
    have h7 := h.cells (g := b) rfl j u hu
    exact h7
theorem own_mono {w : World} {base base' n : Nat} {e : TypeId} {size : Nat} {v : Value} {xs : List Value} (h : w.ownsRow base e size v n xs) (hb : base' ≤ base) : w.ownsRow base' e size v n xs :=
  ⟨h.1, h.2.imp id (fun ⟨b, cap, cur, q1, q2, q3⟩ => ⟨b, cap, cur, q1, Nat.le_trans hb q2, q3⟩)⟩
theorem secs_one (l : List (List Int)) : ∀ u ∈ secs l, u.oneCell' = true := by
  intro u hu
  simp only [secs, List.mem_flatMap] at hu
  obtain ⟨x, _, hx⟩ := hu
  exact sec_one x u hx
theorem wrsC_one (l : List (Nat × List Int)) : ∀ u ∈ wrsC l, u.oneCell' = true := by
  intro u hu
  simp only [wrsC, List.mem_flatMap] at hu
  obtain ⟨x, _, hx⟩ := hu
  exact wrC_one x u hx
theorem secs_length {l : List (List Int)} (h : ∀ x ∈ l, x.length = 64 ∧ byteL x) : (secs l).length = l.length * 64 := flat_length (fun x hx => by rw [sec_length]; exact (h x hx).1)
theorem wrsC_length {l : List (Nat × List Int)} {n : Nat} (h : ∀ p ∈ l, p.1 < n ∧ p.2.length = 64 ∧ byteL p.2) : (wrsC l).length = l.length * 65 := flat_length (wrC_all h)

set_option maxHeartbeats 4000000 in
set_option maxRecDepth 100000 in
theorem copy_disk (B : Nat) (w : World) (g : Nat) (sv wv cv : Value) (D : Dk) (h : IsDisk B w g sv wv cv D) :
    Calls Try.prog 12 #[.pointer (some ⟨g, 0, none⟩)] w fun e w' => ∃ sv' wv', e = .returned (.pointer (some ⟨w.heap.size, 0, none⟩)) ∧ IsDisk w.heap.size w' w.heap.size sv' wv' cv D ∧ Below w.heap.size w w' := by
  obtain ⟨A, c, rfl⟩ := h.svform
  obtain ⟨aw, cw, rfl⟩ := own_form h.wt
  have HN := Lib.hid (none_no w g A _ c _ cv _ _ _ h.db h.ok.n.1)
  obtain ⟨h0, h1, h2, h3, h4, h5, hf⟩ := h.db.cells
  have H := Lib.hid h
  obtain ⟨Ac, cc, hcv, _⟩ := h.c
  subst hcv
  clear h
  go_enter Try.func12, Try.ntmps12
  go_wp2_with fail
  refine HN.out.mono ?_
  rintro e w' ⟨rfl, rfl⟩
  go_wp2_with fail
  obtain ⟨W1, hW1⟩ : ∃ W1, w.alloc (.cells #[.slice A D.stays.length c, .slice aw D.waits.length cw, .int .i64 D.room, .bool D.down, .int .i64 D.steps, .slice Ac D.choice.length cc] 49) = W1 := ⟨_, rfl⟩
  have hsz : W1.heap.size = w.heap.size + 1 := by rw [← hW1, World.size_alloc]
  have hold : ∀ k, k < w.heap.size → W1.heap[k]? = w.heap[k]? := fun k hk => by rw [← hW1]; exact Below.heap_alloc _ _ _ hk
  have hnew : W1.heap[w.heap.size]? = some (.cells #[.slice A D.stays.length c, .slice aw D.waits.length cw, .int .i64 D.room, .bool D.down, .int .i64 D.steps, .slice Ac D.choice.length cc] 49 (0, 0)) := by rw [← hW1]; exact heap_alloc_new _ _
  have hos : W1.os = w.os ∧ W1.tape = w.tape ∧ W1.output = w.output := by rw [← hW1]; exact ⟨rfl, rfl, rfl⟩
  rw [hW1]
  clear hW1
  have hg : g < w.heap.size := H.out.lt g (.inl rfl)
  have hcell : ∀ p : Addr, p.block < w.heap.size → W1.cell? p = w.cell? p := fun p hp => World.cell?_of_block (hold p.block hp)
  have hn := H.out.ok.n
  have hr := H.out.ok.r
  rename_i Kx hKx
  refine copy_region W1 g w.heap.size A aw D.stays.length c D.waits.length cw D _ _ _ _ ?_ ((hcell ⟨g, 0, none⟩ hg).trans h0) ((hcell ⟨g, 1, none⟩ hg).trans h1) (by show g < W1.heap.size; omega) hnew rfl rfl
    (secs_length H.out.ok.s) hn.2 ?_ (wrsC_length H.out.ok.w) (by omega) ?_ (secs_one _) (wrsC_one _) _ _ _ _ _ _ _ _ _ _ _ _ _ _ _ _ _ _ _ ?_
  · rintro c a w' ⟨_, _, _, h, _⟩; cases h
  · intro hp
    obtain ⟨b, rfl, hb, hc⟩ := own_cells H.out.s hp
    exact ⟨_, rfl, fun j u hu => (hcell _ (by rw [add_block]; exact hb)).trans (hc j u hu)⟩
  · intro w2 hb2 hp
    obtain ⟨b, rfl, hb, hc⟩ := own_cells H.out.wt hp
    refine ⟨_, rfl, fun j u hu => ?_⟩
    rw [World.cell?_of_block (hb2.block ((⟨b, 0, none⟩ : Addr).add j).block (by rw [add_block]; show b < W1.heap.size; omega))]
    exact (hcell _ (by rw [add_block]; exact hb)).trans (hc j u hu)
  intro x9 x10 x11 x12 x13 x14 x15 x16 x17 x18 x19 x20 A3 c3 A4 c4 w2 w3 ho1 hb1 ho2 hb2
  have hs2 := hb1.size
  have hs3 := hb2.size
  have hsd : W1.drew.heap.size = W1.heap.size := rfl
  have hblk : ∀ k, k < W1.heap.size → w3.heap[k]? = W1.heap[k]? := fun k hk => (hb2.block k (by omega)).trans (hb1.block k hk)
  have d0 := (hblk w.heap.size (by omega)).trans hnew
  have d1 := heap_setCell_same w3 w.heap.size 0 _ 49 (.slice A3 D.stays.length c3) d0
  have d2 := heap_setCell_same _ w.heap.size 1 _ 49 (.slice A4 D.waits.length c4) d1
  have hoth : ∀ k, k ≠ w.heap.size → ((w3.setCell ⟨w.heap.size, 0, none⟩ (.slice A3 D.stays.length c3)).setCell ⟨w.heap.size, 1, none⟩ (.slice A4 D.waits.length c4)).heap[k]? = w3.heap[k]? := fun k hk => by
    rw [heap_setCell_other _ _ _ _ hk, heap_setCell_other _ _ _ _ hk]
  have hI : IsDisk w.heap.size ((w3.setCell ⟨w.heap.size, 0, none⟩ (.slice A3 D.stays.length c3)).setCell ⟨w.heap.size, 1, none⟩ (.slice A4 D.waits.length c4)) w.heap.size (.slice A3 D.stays.length c3) (.slice A4 D.waits.length c4) (.slice Ac D.choice.length cc) D := by
    refine ⟨H.out.ok, Nat.le_refl _, d2, ?_, ?_, ?_⟩
    · refine own_mono (own_same ho1 (fun k hk => ?_)) (by omega)
      obtain ⟨q1, cs, q2⟩ := own_typed' ho1 k hk
      rw [hoth k (by omega)]
      exact hb2.block k (Array.getElem?_eq_some_iff.1 q2).1
    · refine own_mono (own_same ho2 (fun k hk => ?_)) (by omega)
      obtain ⟨q1, cs, q2⟩ := own_typed' ho2 k hk
      exact hoth k (by omega)
    · refine H.out.c.keep (fun k cells hk => ?_)
      have hlt := (Array.getElem?_eq_some_iff.1 hk).1
      rw [hoth k (by omega), hblk k (by omega), hold k hlt]
  have hBel : Below w.heap.size w ((w3.setCell ⟨w.heap.size, 0, none⟩ (.slice A3 D.stays.length c3)).setCell ⟨w.heap.size, 1, none⟩ (.slice A4 D.waits.length c4)) := by
    refine ⟨(hb2.os.trans hb1.os).trans hos.1, (hb2.tape.trans hb1.tape).trans hos.2.1, (hb2.output.trans hb1.output).trans hos.2.2, by simp only [World.setCell, Array.size_modify]; omega, fun k hk => ?_⟩
    rw [hoth k (by omega), hblk k (by omega), hold k hk]
  have HI := Lib.hid hI
  have HBel := Lib.hid hBel
  clear hI hBel d0 d1 d2 hoth hblk ho1 ho2 hb1 hb2
  refine hKx _ _ ?_
  go_wp2_with fail
  go_ret
  exact ⟨_, _, rfl, HI.out, HBel.out⟩

set_option maxHeartbeats 1000000 in
theorem copy_nil (w : World) : Calls Try.prog 12 #[.pointer none] w fun e w' => e = .returned (.pointer none) ∧ w = w' := by
  have HN := Lib.hid (none_nil w)
  go_enter Try.func12, Try.ntmps12
  go_wp2_with fail
  refine HN.out.mono ?_
  rintro e w' ⟨rfl, rfl⟩
  go_wp2_with fail
  go_ret
  exact ⟨rfl, rfl⟩
end Go.Proofs.Ytbimbgefclohlaa
