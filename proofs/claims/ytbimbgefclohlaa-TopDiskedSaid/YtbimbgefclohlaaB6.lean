/- One part of the proof that postmarktop.TopDisked returns true for every input and that its input reads behind the call as it read before (theorem topDisked_holds in YtbimbgefclohlaaC31). The laws of this text have their conditions in their own statements; the theorem that is claimed has none. -/
import Derived.Test.YtbimbgefclohlaaB5
set_option linter.unusedVariables false
set_option linter.unusedSimpArgs false
namespace Go.Proofs.Ytbimbgefclohlaa
open Go.RowKit

def writeD (D : Dk) (q : Int) (b : List Int) : Int × Dk :=
  if D.down = true then (171, D) else if q < 0 ∨ (D.stays.length : Int) ≤ q ∨ b.length ≠ 64 then (170, D) else
  if 0 < D.room then
    let r := stepD { D with waits := D.waits ++ [(q.toNat, b)], room := D.room - 1 }
    (if r.1 = true then 171 else 0, r.2)
  else
    let r := stepD D
    (if r.1 = true then 171 else 172, r.2)

theorem IsDisk.wrote {B : Nat} {w w3 : World} {g : Nat} {sv wv cv : Value} {D : Dk} (h : IsDisk B w g sv wv cv D) {o : Obj} {v1 : Value} {q : Nat} {b : List Int}
    (hown : w3.ownsRow B 53 65 v1 (D.waits.length + 1) (wrsC D.waits ++ wrC (q, b))) (hgr : (w.drew.alloc o).grownBy w3 wv.ownBlock) (hat : v1.ownBlock = wv.ownBlock ∨ v1.ownBlock = some (w.drew.alloc o).heap.size)
    (hq : q < D.stays.length) (hb : b.length = 64 ∧ byteL b) (hr : 0 < D.room) :
    IsDisk B ((w3.setCell ⟨g, 1, none⟩ v1).setCell ⟨g, 2, none⟩ (.int .i64 (D.room - 1))) g sv v1 cv { D with waits := D.waits ++ [(q, b)], room := D.room - 1 } ∧
    Step (foot g sv wv) (foot g sv v1) w ((w3.setCell ⟨g, 1, none⟩ v1).setCell ⟨g, 2, none⟩ (.int .i64 (D.room - 1))) ∧
    DB (w3.setCell ⟨g, 1, none⟩ v1) g sv v1 cv D.room D.down D.steps := by
  have hsz : (w.drew.alloc o).heap.size = w.heap.size + 1 := by rw [World.size_alloc]; rfl
  have hold : ∀ k, k < w.heap.size → some k ≠ wv.ownBlock → w3.heap[k]? = w.heap[k]? := fun k hk hne => by
    rw [hgr.block k (by omega) hne, Below.heap_alloc w.drew _ _ hk]; rfl
  have hg3 : w3.heap[g]? = w.heap[g]? := hold g (h.lt g (.inl rfl)) (fun e => (h.ne g).2.1 e.symm rfl)
  have hd3 : DB w3 g sv wv cv D.room D.down D.steps := by unfold DB; rw [hg3]; exact h.db
  have e1 := heap_setCell_same w3 g 1 _ 49 v1 hd3
  have e2 := heap_setCell_same _ g 2 _ 49 (.int .i64 (D.room - 1)) e1
  have hoth : ∀ k, k ≠ g → ((w3.setCell ⟨g, 1, none⟩ v1).setCell ⟨g, 2, none⟩ (.int .i64 (D.room - 1))).heap[k]? = w3.heap[k]? := fun k hk => by
    rw [heap_setCell_other _ _ _ _ hk, heap_setCell_other _ _ _ _ hk]
  have hsw : ∀ k, sv.ownBlock = some k → some k ≠ wv.ownBlock := fun k hk e => by
    obtain ⟨_, c1, hc1⟩ := own_typed' h.s k hk
    obtain ⟨_, c2, hc2⟩ := own_typed' h.wt k e.symm
    rw [hc1] at hc2; cases hc2
  refine ⟨⟨⟨h.ok.n, h.ok.s, ?_, ?_, h.ok.st, h.ok.c⟩, h.base, e2, ?_, ?_, ?_⟩, ?_, e1⟩
  · intro p hp
    rcases List.mem_append.1 hp with hp | hp
    · exact h.ok.w p hp
    · rw [List.mem_singleton.1 hp]; exact ⟨hq, hb⟩
  · have := h.ok.r
    simp only [List.length_append, List.length_singleton]
    omega
  · exact own_same h.s (fun k hk => by rw [hoth k ((h.ne k).1 hk), hold k (h.lt k (.inr (.inl hk))) (hsw k hk)])
  · have hw : w3.ownsRow B 53 65 v1 (D.waits ++ [(q, b)]).length (wrsC (D.waits ++ [(q, b)])) := by
      simp only [List.length_append, List.length_singleton, wrsC, List.flatMap_append, List.flatMap_cons, List.flatMap_nil, List.append_nil]
      exact hown
    refine own_same hw (fun k hk => hoth k ?_)
    rintro rfl
    obtain ⟨_, c1, hc1⟩ := own_typed' hown k hk
    rw [hd3] at hc1; cases hc1
  · refine h.c.keep (fun k cells hk => ?_)
    rw [hoth k ((h.ne k).2.2 cells hk)]
    refine hold k (Array.getElem?_eq_some_iff.1 hk).1 (fun e => ?_)
    obtain ⟨_, c2, hc2⟩ := own_typed' h.wt k e.symm
    rw [hk] at hc2; cases hc2
  · refine ⟨hgr.os, hgr.tape, hgr.output, ?_, fun k hk hF => ?_, fun k hk => ?_⟩
    · have := hgr.size
      simp only [World.setCell, Array.size_modify]
      omega
    · rw [hoth k (fun e => hF (.inl e)), hold k hk (fun e => hF (.inr (.inr e.symm)))]
    · rcases hk with h1 | h1 | h1
      · exact .inl (.inl h1)
      · exact .inl (.inr (.inl h1))
      · rcases hat with e | e
        · exact .inl (.inr (.inr (e ▸ h1)))
        · rw [e] at h1
          injection h1 with h1
          exact .inr (by omega)

theorem Left.of_step {B : Nat} {w w1 w2 : World} {g : Nat} {sv wv sv1 wv1 : Value} {D : Dk} (hs : Step (foot g sv wv) (foot g sv1 wv1) w w1) (h : Left B w1 w2 g sv1 wv1 D) : Left B w w2 g sv wv D := by
  obtain ⟨a, b, c, h1, h2⟩ := h
  exact ⟨a, b, c, h1, hs.trans h2⟩

set_option maxHeartbeats 2000000 in
set_option maxRecDepth 100000 in
theorem write_good (B : Nat) (w : World) (g : Nat) (sv wv cv : Value) (D : Dk) (h : IsDisk B w g sv wv cv D) (q : Nat) (ac : Option Addr) (cc : Nat) (b : List Int) (hch : RB w ac 64 b (foot g sv wv))
    (hd : D.down = false) (hq : q < D.stays.length) (hr : 0 < D.room) :
    Calls Try.prog 7 #[.pointer (some ⟨g, 0, none⟩), .int .i64 q, .slice ac 64 cc] w fun e w' => e = .returned (.int .i64 (writeD D q b).1) ∧ Left B w w' g sv wv (writeD D q b).2 := by
  obtain ⟨A, c, hsv⟩ := h.svform
  obtain ⟨aw, cw, rfl⟩ := own_form h.wt
  obtain ⟨ad, rfl, hcc⟩ := rb_cells hch (by omega)
  have HCC := Lib.hid hcc
  clear hcc
  have hdb := h.db
  rw [hsv] at hdb
  obtain ⟨h0, h1, h2, h3, h4, h5, hf⟩ := hdb.cells
  have HE := Lib.hid (error_any w g A _ c _ cv _ _ _ hdb h.ok.n.1)
  rw [hd] at HE
  have H := Lib.hid h
  have HB := Lib.hid hch
  have hn := h.ok.n
  have HR := Lib.hid hr
  have hr' : decide (0 < D.room) = true := by simpa using hr
  have q0' : decide ((q : Int) < 0) = false := by simp
  have q1' : decide ((D.stays.length : Int) ≤ q) = false := by simp; omega
  have HQ := Lib.hid hq
  have e : writeD D q b = (let r := stepD { D with waits := D.waits ++ [(q, b)], room := D.room - 1 }
    (if r.1 = true then 171 else 0, r.2)) := by
    unfold writeD; rw [if_neg (by simp [hd]), if_neg (by have := hch.l.1; omega), if_pos hr]; rfl
  clear h hdb hch hsv hd hq hr
  go_enter Try.func7, Try.ntmps7
  go_wp2_with fail
  refine HE.out.mono ?_
  rintro e w' ⟨rfl, rfl⟩
  go_wp2_with fail
  rename_i K1 hK1 K2 hK2
  refine write_region w B g sv cv aw cw D q ad cc b _ ?_ H.out HB.out.l.1 HCC.out (by have := H.out.ok.r; have := HR.out; omega) _ _ _ _ _ _ _ _ _ _ _ _ _ _ _ _ _ _ _ _ _ _ _ _ _ _ _ _ _ _ _ _ _ _ _ _ _ _ _ _ _ _ _ _ _ _ _ _ _ _ _ _ _ _ _ _ _ _ _ _ ?_
  · rintro c a w' ⟨_, h, _⟩; cases h
  intro A1 c1 w3 x36 x37 x38 x39 x40 x41 x42 x43 x44 x45 x46 x47 x48 x49 hown hgr hat
  obtain ⟨hI, hS, hB2⟩ := H.out.wrote hown hgr hat HQ.out ⟨HB.out.l.1, HB.out.b⟩ HR.out
  have HS := Lib.hid (step_disk B _ g sv _ cv _ hI)
  have HSt := Lib.hid hS
  obtain ⟨k0, k1, k2, k3, k4, k5, kf⟩ := hB2.cells
  clear hI hS hB2 hown hgr hat h0 h1 h2 h3 h4 h5 hf
  have hr1 := H.out.ok.r
  have hr2 := HR.out
  refine hK2 _ _ ?_
  go_wp2_with fail
  refine HS.out.mono ?_
  rintro e w' ⟨rfl, hL⟩
  have HL := Lib.hid hL
  clear hL
  cases hb : (stepD { D with waits := D.waits ++ [(q, b)], room := D.room - 1 }).1
  · go_wp2
    go_ret
    exact ⟨by rw [e]; simp [hb], by rw [e]; exact Left.of_step HSt.out HL.out⟩
  · go_wp2
    go_ret
    exact ⟨by rw [e]; simp [hb], by rw [e]; exact Left.of_step HSt.out HL.out⟩
set_option maxHeartbeats 2000000 in
set_option maxRecDepth 100000 in
theorem write_full (B : Nat) (w : World) (g : Nat) (sv wv cv : Value) (D : Dk) (h : IsDisk B w g sv wv cv D) (q : Nat) (ac : Option Addr) (cc : Nat) (b : List Int) (hb : b.length = 64)
    (hd : D.down = false) (hq : q < D.stays.length) (hr : ¬ 0 < D.room) :
    Calls Try.prog 7 #[.pointer (some ⟨g, 0, none⟩), .int .i64 q, .slice ac 64 cc] w fun e w' => e = .returned (.int .i64 (writeD D q b).1) ∧ Left B w w' g sv wv (writeD D q b).2 := by
  obtain ⟨A, c, hsv⟩ := h.svform
  have hdb := h.db
  rw [hsv] at hdb
  obtain ⟨h0, h1, h2, h3, h4, h5, hf⟩ := hdb.cells
  have HE := Lib.hid (error_any w g A _ c _ cv _ _ _ hdb h.ok.n.1)
  rw [hd] at HE
  have HS := Lib.hid (step_disk B w g sv wv cv _ h)
  have H := Lib.hid h
  have hn := h.ok.n
  have hr1 := h.ok.r
  have hr' : decide (0 < D.room) = false := by simpa using hr
  have q0' : decide ((q : Int) < 0) = false := by simp
  have q1' : decide ((D.stays.length : Int) ≤ q) = false := by simp; omega
  have e : writeD D q b = (let r := stepD D
    (if r.1 = true then 171 else 172, r.2)) := by
    unfold writeD; rw [if_neg (by simp [hd]), if_neg (by omega), if_neg hr]
  have hq' : ¬ D.stays.length ≤ q := by omega
  clear h hdb hsv hd hr
  go_enter Try.func7, Try.ntmps7
  go_wp2_with fail
  refine HE.out.mono ?_
  rintro e w' ⟨rfl, rfl⟩
  go_wp2_with fail
  refine HS.out.mono ?_
  rintro e w' ⟨rfl, hL⟩
  have HL := Lib.hid hL
  clear hL
  cases hb : (stepD D).1
  · go_wp2
    go_ret
    exact ⟨by rw [e]; simp [hb], by rw [e]; exact HL.out⟩
  · go_wp2
    go_ret
    exact ⟨by rw [e]; simp [hb], by rw [e]; exact HL.out⟩

set_option maxHeartbeats 2000000 in
set_option maxRecDepth 100000 in
theorem write_disk (B : Nat) (w : World) (g : Nat) (sv wv cv : Value) (D : Dk) (h : IsDisk B w g sv wv cv D) (q : Int) (ac : Option Addr) (m cc : Nat) (b : List Int) (hch : RB w ac m b (foot g sv wv)) :
    Calls Try.prog 7 #[.pointer (some ⟨g, 0, none⟩), .int .i64 q, .slice ac m cc] w fun e w' => e = .returned (.int .i64 (writeD D q b).1) ∧ Left B w w' g sv wv (writeD D q b).2 := by
  obtain ⟨A, c, hsv⟩ := h.svform
  have hdb := h.db
  rw [hsv] at hdb
  obtain ⟨h0, h1, h2, h3, h4, h5, hf⟩ := hdb.cells
  have HE := Lib.hid (error_any w g A _ c wv cv _ _ _ hdb h.ok.n.1)
  have H := Lib.hid h
  have HB := Lib.hid hch
  have hml := hch.l.1
  have HML := Lib.hid hml
  have hn := h.ok.n
  clear h hdb hch hsv hml
  by_cases hd : D.down = true
  · have e : writeD D q b = (171, D) := by unfold writeD; rw [if_pos hd]
    rw [e]
    rw [hd] at HE
    clear e hd
    go_enter Try.func7, Try.ntmps7
    go_wp2_with fail
    refine HE.out.mono ?_
    rintro e w' ⟨rfl, rfl⟩
    go_wp2_with fail
    go_ret
    exact ⟨rfl, _, _, _, H.out, Step.refl _ _⟩
  · have hd' : D.down = false := by simpa using hd
    rw [hd'] at HE
    have hq63 : D.stays.length ≤ 64 := hn.2
    by_cases hbad : q < 0 ∨ (D.stays.length : Int) ≤ q ∨ b.length ≠ 64
    · have e : writeD D q b = (170, D) := by unfold writeD; rw [if_neg hd, if_pos hbad]
      rw [e]
      rw [HML.out] at hbad
      clear e hd hd'
      by_cases q0 : q < 0
      · have q0' : decide (q < 0) = true := by simpa using q0
        clear hbad
        go_enter Try.func7, Try.ntmps7
        go_wp2_with fail
        refine HE.out.mono ?_
        rintro e w' ⟨rfl, rfl⟩
        go_wp2_with fail
        go_ret
        exact ⟨rfl, _, _, _, H.out, Step.refl _ _⟩
      · have q0' : decide (q < 0) = false := by simpa using q0
        by_cases q1 : (D.stays.length : Int) ≤ q
        · have q1' : decide ((D.stays.length : Int) ≤ q) = true := by simpa using q1
          clear hbad
          go_enter Try.func7, Try.ntmps7
          go_wp2_with fail
          refine HE.out.mono ?_
          rintro e w' ⟨rfl, rfl⟩
          go_wp2_with fail
          go_ret
          exact ⟨rfl, _, _, _, H.out, Step.refl _ _⟩
        · have q1' : decide ((D.stays.length : Int) ≤ q) = false := by simpa using q1
          have q2 : (m : Int) ≠ 64 := by omega
          have q2' : ((m : Int) != 64) = true := by simpa using q2
          clear hbad
          go_enter Try.func7, Try.ntmps7
          go_wp2_with fail
          refine HE.out.mono ?_
          rintro e w' ⟨rfl, rfl⟩
          go_wp2_with fail
          go_ret
          exact ⟨rfl, _, _, _, H.out, Step.refl _ _⟩
    · have hb64 : b.length = 64 := by omega
      have hm : m = 64 := by rw [← HML.out, hb64]
      subst hm
      obtain ⟨q', rfl⟩ : ∃ q' : Nat, q = q' := ⟨q.toNat, by omega⟩
      clear HE
      by_cases hr : 0 < D.room
      · exact write_good B w g sv wv cv D H.out q' ac cc b HB.out hd' (by omega) hr
      · exact write_full B w g sv wv cv D H.out q' ac cc b hb64 hd' (by omega) hr

theorem error_nil (w : World) : Calls Try.prog 16 #[.pointer none] w fun e w' => e = .returned (.int .i64 1) ∧ w = w' := by
  have HN := Lib.hid (none_nil w)
  go_enter Try.func16, Try.ntmps16
  go_wp2_with fail
  refine HN.out.mono ?_
  rintro e w' ⟨rfl, rfl⟩
  go_wp2
  go_ret
  exact ⟨rfl, rfl⟩
set_option maxHeartbeats 2000000 in
theorem write_nil (w : World) (q : Int) (ac : Option Addr) (m cc : Nat) :
    Calls Try.prog 7 #[.pointer none, .int .i64 q, .slice ac m cc] w fun e w' => e = .returned (.int .i64 1) ∧ w = w' := by
  have HE := Lib.hid (error_nil w)
  go_enter Try.func7, Try.ntmps7
  go_wp2_with fail
  refine HE.out.mono ?_
  rintro e w' ⟨rfl, rfl⟩
  go_wp2_with fail
  go_ret
  exact ⟨rfl, rfl⟩
end Go.Proofs.Ytbimbgefclohlaa
