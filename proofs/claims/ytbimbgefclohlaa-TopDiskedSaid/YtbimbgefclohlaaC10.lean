/- One part of the proof that postmarktop.TopDisked returns true for every input and that its input reads behind the call as it read before (theorem topDisked_holds in YtbimbgefclohlaaC31). The laws of this text have their conditions in their own statements; the theorem that is claimed has none. -/
import Derived.Test.YtbimbgefclohlaaC9
set_option linter.unusedVariables false
set_option linter.unusedSimpArgs false
namespace Go.Proofs.Ytbimbgefclohlaa
open Go.RowKit

theorem cho_cells {w : World} {ch : List Int} {A : Option Addr} {c : Nat} (h : Cho w (.slice A ch.length c) ch) (hp : 0 < ch.length) : ∃ b, A = some ⟨b, 0, none⟩ ∧ b < w.heap.size ∧ ∀ j u, (sec ch)[j]? = some u → w.cell? ((⟨b, 0, none⟩ : Addr).add j) = some u := by
  obtain ⟨A', c', e, _, h0 | h⟩ := h
  · omega
  · exact own_cells h hp

set_option maxHeartbeats 4000000 in
set_option maxRecDepth 100000 in
theorem twin_x (B : Nat) (w : World) (g : Nat) (sv wv cv : Value) (D : Dk) (h : IsX B w g sv wv cv D) :
    Calls Try.prog 14 #[.pointer (some ⟨g, 0, none⟩)] w fun e w' => ∃ sv' wv' cv', e = .returned (.pointer (some ⟨w.heap.size, 0, none⟩)) ∧ IsX w.heap.size w' w.heap.size sv' wv' cv' D ∧ Below w.heap.size w w' := by
  obtain ⟨A, c, rfl⟩ := own_form h.s
  obtain ⟨aw, cw, rfl⟩ := own_form h.wt
  obtain ⟨h0, h1, h2, h3, h4, h5, hf⟩ := h.xb.cells
  have H := Lib.hid h
  obtain ⟨Ac, cc, hcv, hcl, _⟩ := h.c
  subst hcv
  clear h
  go_enter Try.func14, Try.ntmps14
  go_wp2_with fail
  obtain ⟨W1, hW1⟩ : ∃ W1, w.alloc (.cells #[.slice A D.stays.length c, .slice aw D.waits.length cw, .int .i64 D.room, .bool (!D.down), .int .i64 D.steps, .slice Ac D.choice.length cc] 40) = W1 := ⟨_, rfl⟩
  have hsz : W1.heap.size = w.heap.size + 1 := by rw [← hW1, World.size_alloc]
  have hold : ∀ k, k < w.heap.size → W1.heap[k]? = w.heap[k]? := fun k hk => by rw [← hW1]; exact Below.heap_alloc _ _ _ hk
  have hnew : W1.heap[w.heap.size]? = some (.cells #[.slice A D.stays.length c, .slice aw D.waits.length cw, .int .i64 D.room, .bool (!D.down), .int .i64 D.steps, .slice Ac D.choice.length cc] 40 (0, 0)) := by rw [← hW1]; exact heap_alloc_new _ _
  have hos : W1.os = w.os ∧ W1.tape = w.tape ∧ W1.output = w.output := by rw [← hW1]; exact ⟨rfl, rfl, rfl⟩
  rw [hW1]
  clear hW1
  have hg : g < w.heap.size := H.out.lt g (.inl rfl)
  have hcell : ∀ p : Addr, p.block < w.heap.size → W1.cell? p = w.cell? p := fun p hp => World.cell?_of_block (hold p.block hp)
  have hn := H.out.ok.n
  have hr := H.out.ok.r
  have hsd : W1.drew.heap.size = W1.heap.size := rfl
  have kept : ∀ (n : Nat) (A : Option Addr) (xs : List Value), (0 < n → ∃ b, A = some ⟨b, 0, none⟩ ∧ b < w.heap.size ∧ ∀ j u, xs[j]? = some u → w.cell? ((⟨b, 0, none⟩ : Addr).add j) = some u) →
      ∀ w2, Below W1.drew.heap.size W1.drew w2 → 0 < n → ∃ ad, A = some ad ∧ ∀ j u, xs[j]? = some u → w2.cell? (ad.add j) = some u := by
    intro n A xs hh w2 hb2 hp
    obtain ⟨b, rfl, hb, hc⟩ := hh hp
    refine ⟨_, rfl, fun j u hu => ?_⟩
    rw [World.cell?_of_block (hb2.block ((⟨b, 0, none⟩ : Addr).add j).block (by rw [add_block]; show b < W1.heap.size; omega))]
    exact (hcell _ (by rw [add_block]; exact hb)).trans (hc j u hu)
  rename_i Kx hKx
  refine twin_region W1 g w.heap.size A aw Ac D.stays.length c D.waits.length cw D.choice.length cc D _ _ _ _ _ ?_ ((hcell ⟨g, 0, none⟩ hg).trans h0) ((hcell ⟨g, 1, none⟩ hg).trans h1) ((hcell ⟨g, 5, none⟩ hg).trans h5) (by show g < W1.heap.size; omega) hnew rfl rfl rfl
    (by rw [stC_length, Nat.mul_one]) (waC_length _) (by rw [sec_length, Nat.mul_one]) ⟨hn.2, by omega, hcl⟩ (kept _ _ _ (own_cells H.out.s)) (kept _ _ _ (own_cells H.out.wt)) (kept _ _ _ (cho_cells H.out.c)) _ _ _ _ _ _ _ _ _ _ _ _ _ _ _ _ _ _ _ _ _ _ _ ?_
  · rintro c a w' ⟨_, _, _, _, h, _⟩; cases h
  intro x7 x8 x9 x10 x11 x12 x13 x14 x15 x16 x17 x18 x19 x20 x21 x22 x23 x24 Aa ca Ab cb Ad cd w2 w3 w4 ho1 hb1 ho2 hb2 ho3 hb3
  have hs2 := hb1.size
  have hs3 := hb2.size
  have hs4 := hb3.size
  have hblk : ∀ k, k < W1.heap.size → w4.heap[k]? = W1.heap[k]? := fun k hk => ((hb3.block k (by omega)).trans (hb2.block k (by omega))).trans (hb1.block k hk)
  have d0 := (hblk w.heap.size (by omega)).trans hnew
  have d1 := heap_setCell_same w4 w.heap.size 0 _ 40 (.slice Aa D.stays.length ca) d0
  have d2 := heap_setCell_same _ w.heap.size 1 _ 40 (.slice Ab D.waits.length cb) d1
  have d3 := heap_setCell_same _ w.heap.size 5 _ 40 (.slice Ad D.choice.length cd) d2
  generalize hW : ((w4.setCell ⟨w.heap.size, 0, none⟩ (.slice Aa D.stays.length ca)).setCell ⟨w.heap.size, 1, none⟩ (.slice Ab D.waits.length cb)).setCell ⟨w.heap.size, 5, none⟩ (.slice Ad D.choice.length cd) = W at *
  have hoth : ∀ k, k ≠ w.heap.size → W.heap[k]? = w4.heap[k]? := fun k hk => by
    rw [← hW, heap_setCell_other _ _ _ _ hk, heap_setCell_other _ _ _ _ hk, heap_setCell_other _ _ _ _ hk]
  have hWs : W.heap.size = w4.heap.size ∧ W.os = w4.os ∧ W.tape = w4.tape ∧ W.output = w4.output := by rw [← hW]; exact ⟨by simp [World.setCell], rfl, rfl, rfl⟩
  have hI : IsX w.heap.size W w.heap.size (.slice Aa D.stays.length ca) (.slice Ab D.waits.length cb) (.slice Ad D.choice.length cd) D := by
    refine ⟨H.out.ok, Nat.le_refl _, d3, ?_, ?_, ?_⟩
    · refine own_mono (own_same ho1 (fun k hk => ?_)) (by omega)
      obtain ⟨q1, cs, q2⟩ := own_typed' ho1 k hk
      have := (Array.getElem?_eq_some_iff.1 q2).1
      rw [hoth k (by omega)]
      exact (hb3.block k (by omega)).trans (hb2.block k this)
    · refine own_mono (own_same ho2 (fun k hk => ?_)) (by omega)
      obtain ⟨q1, cs, q2⟩ := own_typed' ho2 k hk
      rw [hoth k (by omega)]
      exact hb3.block k (Array.getElem?_eq_some_iff.1 q2).1
    · refine ⟨_, _, rfl, hcl, .inr (own_mono (own_same ho3 (fun k hk => ?_)) (Nat.zero_le _))⟩
      obtain ⟨q1, cs, q2⟩ := own_typed' ho3 k hk
      exact hoth k (by omega)
  have hBel : Below w.heap.size w W := by
    refine ⟨hWs.2.1.trans (((hb3.os.trans hb2.os).trans hb1.os).trans hos.1), hWs.2.2.1.trans (((hb3.tape.trans hb2.tape).trans hb1.tape).trans hos.2.1), hWs.2.2.2.trans (((hb3.output.trans hb2.output).trans hb1.output).trans hos.2.2), by omega, fun k hk => ?_⟩
    rw [hoth k (by omega), hblk k (by omega), hold k hk]
  have HI := Lib.hid hI
  have HBel := Lib.hid hBel
  clear hI hBel d0 d1 d2 d3 hoth hblk ho1 ho2 ho3 hb1 hb2 hb3 hW
  refine hKx _ _ ?_
  go_wp2_with fail
  go_ret
  exact ⟨_, _, _, rfl, HI.out, HBel.out⟩
end Go.Proofs.Ytbimbgefclohlaa
