/- One part of the proof that postmarktop.TopDisked returns true for every input and that its input reads behind the call as it read before (theorem topDisked_holds in YtbimbgefclohlaaC31). The laws of this text have their conditions in their own statements; the theorem that is claimed has none. -/
import Derived.Test.YtbimbgefclohlaaB2
set_option linter.unusedVariables false
set_option linter.unusedSimpArgs false
namespace Go.Proofs.Ytbimbgefclohlaa
open Go.RowKit

set_option maxHeartbeats 1000000 in
theorem boot_disk (B : Nat) (w : World) (g : Nat) (sv wv cv : Value) (D : Dk) (h : IsDisk B w g sv wv cv D) :
    Calls Try.prog 8 #[.pointer (some ⟨g, 0, none⟩)] w fun e w' => e = .returned (.int .i64 0) ∧ Left B w w' g sv wv { D with down := false } := by
  obtain ⟨A, c, rfl⟩ := h.svform
  refine (boot_any w g A _ c wv cv _ _ _ h.db h.ok.n.1).mono ?_
  rintro e w' ⟨rfl, rfl⟩
  exact ⟨rfl, _, _, _, h.set3 false, Step.set (p := ⟨g, 3, none⟩) (.inl rfl) _⟩

set_option maxHeartbeats 1000000 in
theorem crash_disk (B : Nat) (w : World) (g : Nat) (sv wv cv : Value) (D : Dk) (h : IsDisk B w g sv wv cv D) (ac : Option Addr) (m cc : Nat) (ch : List Int) (hch : RB w ac m ch (foot g sv wv)) :
    Calls Try.prog 26 #[.pointer (some ⟨g, 0, none⟩), .slice ac m cc] w fun e w' => e = .returned (.int .i64 (if D.down then 171 else 0)) ∧ Left B w w' g sv wv (if D.down then D else fallD D ch) := by
  obtain ⟨A, c, hsv⟩ := h.svform
  have hdb := h.db
  rw [hsv] at hdb
  have HC := Lib.hid (falls_disk B w g sv wv cv D h ac m cc ch hch)
  have HE := Lib.hid (error_any w g A _ c wv cv _ _ _ hdb h.ok.n.1)
  have H := Lib.hid h
  clear h hdb hch hsv
  cases hd : D.down
  · have HD := Lib.hid hd
    clear hd
    go_enter Try.func26, Try.ntmps26
    go_wp2_with fail
    refine HE.out.mono ?_
    rintro e w' ⟨rfl, rfl⟩
    rw [HD.out]
    go_wp2_with fail
    refine HC.out.mono ?_
    rintro e w' ⟨rfl, hD, hS⟩
    go_wp2
    go_ret
    exact ⟨rfl, _, _, _, hD, hS⟩
  · have HD := Lib.hid hd
    clear hd
    go_enter Try.func26, Try.ntmps26
    go_wp2_with fail
    refine HE.out.mono ?_
    rintro e w' ⟨rfl, rfl⟩
    rw [HD.out]
    go_wp2_with fail
    go_ret
    exact ⟨rfl, _, _, _, H.out, Step.refl _ _⟩

section
variable {B : Nat} {w w' : World} {g : Nat} {sv wv cv : Value} {D : Dk}
/-- numbers and the choice turned -/
theorem IsDisk.putc (h : IsDisk B w g sv wv cv D) {room : Int} {down : Bool} {steps : Int} {cv' : Value} {ch : List Int} (hg : DB w' g sv wv cv' room down steps) (hm : ∀ k, k ≠ g → k < w.heap.size → w'.heap[k]? = w.heap[k]?)
    (hc : Cho w' cv' ch) (ok : ({ D with room := room, down := down, steps := steps, choice := ch } : Dk).Ok) : IsDisk B w' g sv wv cv' { D with room := room, down := down, steps := steps, choice := ch } :=
  ⟨ok, h.base, hg, own_same h.s (fun k hk => hm k ((h.ne k).1 hk) (h.lt k (.inr (.inl hk)))), own_same h.wt (fun k hk => hm k ((h.ne k).2.1 hk) (h.lt k (.inr (.inr hk)))), hc⟩
end

set_option maxHeartbeats 1000000 in
theorem arm_bad (B : Nat) (w : World) (g : Nat) (sv wv cv : Value) (D : Dk) (h : IsDisk B w g sv wv cv D) (n : Int) (hn : n < 1) (ac : Option Addr) (m cc : Nat) :
    Calls Try.prog 27 #[.pointer (some ⟨g, 0, none⟩), .int .i64 n, .slice ac m cc] w fun e w' => e = .returned (.int .i64 2) ∧ w = w' := by
  obtain ⟨A, c, hsv⟩ := h.svform
  have hdb := h.db
  rw [hsv] at hdb
  have HN := Lib.hid (none_no w g A _ c wv cv _ _ _ hdb h.ok.n.1)
  clear h hdb hsv
  go_enter Try.func27, Try.ntmps27
  go_wp2_with fail
  refine HN.out.mono ?_
  rintro e w' ⟨rfl, rfl⟩
  go_wp2_with fail
  go_ret
  exact ⟨rfl, rfl⟩

theorem rb_cells {w : World} {ac : Option Addr} {m : Nat} {ch : List Int} {no : Nat → Prop} (h : RB w ac m ch no) : 0 < m → ∃ ad, ac = some ad ∧ ∀ j u, (sec ch)[j]? = some u → w.cell? (ad.add j) = some u := fun hp => by
  obtain ⟨ad, e, _, _, hc⟩ := h.c hp
  refine ⟨ad, e, fun j u hu => ?_⟩
  have hj : j < ch.length := by have := (List.getElem?_eq_some_iff.1 hu).1; rwa [sec_length] at this
  have := hc j (by rw [← h.l.1]; exact hj)
  rw [this]
  simp [sec, List.getElem?_eq_getElem hj] at hu
  rw [List.getD_eq_getElem?_getD, List.getElem?_eq_getElem hj]
  simpa using hu

set_option maxHeartbeats 1000000 in
theorem arm_disk (B : Nat) (w : World) (g : Nat) (sv wv cv : Value) (D : Dk) (h : IsDisk B w g sv wv cv D) (n : Int) (hn : 1 ≤ n ∧ n ≤ 9223372036854775807) (ac : Option Addr) (m cc : Nat) (ch : List Int) (hch : RB w ac m ch (foot g sv wv)) :
    Calls Try.prog 27 #[.pointer (some ⟨g, 0, none⟩), .int .i64 n, .slice ac m cc] w fun e w' => e = .returned (.int .i64 0) ∧ Left B w w' g sv wv { D with steps := n, choice := ch } := by
  obtain ⟨A, c, hsv⟩ := h.svform
  have hdb := h.db
  rw [hsv] at hdb
  have HN := Lib.hid (none_no w g A _ c wv cv _ _ _ hdb h.ok.n.1)
  have HC := Lib.hid (clB_any w ac m cc (sec ch) (by rw [sec_length, hch.l.1]; omega) (by have := hch.l.2; omega) (sec_one ch) (rb_cells hch))
  have H := Lib.hid h
  have HB := Lib.hid hch
  clear h hdb hch hsv
  go_enter Try.func27, Try.ntmps27
  go_wp2_with fail
  refine HN.out.mono ?_
  rintro e w' ⟨rfl, rfl⟩
  go_wp2_with fail
  refine HC.out.mono ?_
  rintro e w1 ⟨v, rfl, hown, hb⟩
  have hlen := HB.out.l.1
  obtain ⟨A2, c2, rfl⟩ : ∃ A c, v = .slice A ch.length c := by
    rcases hown.2 with ⟨rfl, h0⟩ | ⟨b, cap, cur, rfl, _⟩
    · exact ⟨none, 0, by rw [hlen, h0]⟩
    · exact ⟨_, _, by rw [hlen]⟩
  clear hlen
  have hI := H.out.below hb
  obtain ⟨h0, h1, h2, h3, h4, h5, hf⟩ := hI.db.cells
  have HI := Lib.hid hI
  have HO := Lib.hid hown
  have HW := Lib.hid hb
  clear hI hown hb
  go_wp2_with fail
  go_ret
  have hs1 := heap_setCell_same w1 g 4 _ 49 (.int .i64 n) HI.out.db
  have hs2 := heap_setCell_same _ g 5 _ 49 (.slice A2 ch.length c2) hs1
  have hlen := HB.out.l.1
  refine ⟨rfl, _, _, _, HI.out.putc (room := D.room) (down := D.down) (steps := n) (cv' := .slice A2 ch.length c2) (ch := ch) hs2 (fun k hk _ => by rw [heap_setCell_other _ _ _ _ hk, heap_setCell_other _ _ _ _ hk]) ?_ ?_, ?_⟩
  · have hne : ∀ k, (Value.slice A2 ch.length c2).ownBlock = some k → k ≠ g := fun k hk => by
      have := (own_typed' HO.out k hk).1
      have := H.out.lt g (.inl rfl)
      omega
    refine ⟨_, _, rfl, by have := HB.out.l.2; omega, .inr ?_⟩
    have := HO.out
    rw [← hlen] at this
    exact own_same ⟨this.1, this.2.imp id (fun ⟨b, cap, cur, q1, q2, q3⟩ => ⟨b, cap, cur, q1, Nat.zero_le _, q3⟩)⟩ (fun k hk => by rw [heap_setCell_other _ _ _ _ (hne k hk), heap_setCell_other _ _ _ _ (hne k hk)])
  · exact ⟨H.out.ok.n, H.out.ok.s, H.out.ok.w, H.out.ok.r, by simp only; omega, HB.out.b⟩
  · exact (Step.ofBelow HW.out).trans ((Step.set (p := ⟨g, 4, none⟩) (.inl rfl) _).trans (Step.set (p := ⟨g, 5, none⟩) (.inl rfl) _))
end Go.Proofs.Ytbimbgefclohlaa
