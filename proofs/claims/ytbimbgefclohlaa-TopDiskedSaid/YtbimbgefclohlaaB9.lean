/- One part of the proof that postmarktop.TopDisked returns true for every input and that its input reads behind the call as it read before (theorem topDisked_holds in YtbimbgefclohlaaC31). The laws of this text have their conditions in their own statements; the theorem that is claimed has none. -/
import Derived.Test.YtbimbgefclohlaaB8
set_option linter.unusedVariables false
set_option linter.unusedSimpArgs false
namespace Go.Proofs.Ytbimbgefclohlaa
open Go.RowKit

def lastW (s : List Int) (ws : List (Nat × List Int)) (q : Nat) (k : Nat) : List Int := (upto (fun j => ws.getD j (0, [])) k).foldl (fun c p => if p.1 = q then p.2 else c) s
theorem lastW_succ (s : List Int) (ws : List (Nat × List Int)) (q k : Nat) : lastW s ws q (k + 1) = if (ws.getD k (0, [])).1 = q then (ws.getD k (0, [])).2 else lastW s ws q k := by
  simp [lastW, upto_succ]
theorem lastW_ok {s : List Int} {ws : List (Nat × List Int)} {n : Nat} (q : Nat) (hs : s.length = 64 ∧ byteL s) (hw : ∀ p ∈ ws, p.1 < n ∧ p.2.length = 64 ∧ byteL p.2) (k : Nat) (hk : k ≤ ws.length) : (lastW s ws q k).length = 64 ∧ byteL (lastW s ws q k) := by
  induction k with
  | zero => exact hs
  | succ k ih =>
    rw [lastW_succ]
    have hp := hw (ws.getD k (0, [])) (by rw [List.getD_eq_getElem?_getD, List.getElem?_eq_getElem (by omega)]; exact List.getElem_mem _)
    split
    · exact hp.2
    · exact ih (by omega)
def readD (D : Dk) (q : Int) : Int × List Int :=
  if D.down = true then (171, []) else if q < 0 ∨ (D.stays.length : Int) ≤ q then (170, []) else (0, lastW (D.stays.getD q.toNat []) D.waits q.toNat D.waits.length)

theorem z51 (w : World) : ∃ c : Array Value, c.size = 64 ∧ (Instr.alloc 51 true (.tuple #[])).run Try.prog w = .ok (.pointer (some ⟨w.heap.size, 0, none⟩)) (w.alloc (.cells c 51)) := by
  refine ⟨((Try.prog.info? 51).bind (·.zero)).getD undef |>.cells, by kernel_rfl, ?_⟩
  kernel_rfl
theorem wpList_alloc51 {ops : Array Oper} {rest : List Oper} {o : Oper} {a : Act} {w : World} {Q : Exit → Act → World → Prop} (hgd : o.guard = none) (ho : o.op = .alloc 51)
    (h : ∀ c : Array Value, c.size = 64 → wpList Try.prog ops Q rest (a.put o.dst (.pointer (some ⟨w.heap.size, 0, none⟩))) (w.alloc (.cells c 51))) : wpList Try.prog ops Q (o :: rest) a w := by
  refine wpList_plain hgd fun K hK => ?_
  obtain ⟨c, hc, hr⟩ := z51 w
  unfold Oper.wp execOp
  simp only [ho, Sem.run_bind, hr, Result.andThen_ok, Sem.run_pure]
  exact hK _ _ (h c hc)

set_option maxHeartbeats 4000000 in
set_option maxRecDepth 100000 in
theorem read_bad (B : Nat) (w : World) (g : Nat) (sv wv cv : Value) (D : Dk) (h : IsDisk B w g sv wv cv D) (q : Int) (hb : D.down = true ∨ q < 0 ∨ (D.stays.length : Int) ≤ q) :
    Calls Try.prog 21 #[.pointer (some ⟨g, 0, none⟩), .int .i64 q] w fun e w' => e = .returned (.tuple #[.slice none 0 0, .int .i64 (readD D q).1]) ∧ w = w' := by
  obtain ⟨A, c, hsv⟩ := h.svform
  have hdb := h.db
  rw [hsv] at hdb
  obtain ⟨h0, h1, h2, h3, h4, h5, hf⟩ := hdb.cells
  have HE := Lib.hid (error_any w g A _ c _ cv _ _ _ hdb h.ok.n.1)
  have hn := h.ok.n
  clear h hdb hsv
  by_cases hd : D.down = true
  · have e : readD D q = (171, []) := by unfold readD; rw [if_pos hd]
    rw [e]
    rw [hd] at HE
    clear e hd
    go_enter Try.func21, Try.ntmps21
    go_wp2_with fail
    refine HE.out.mono ?_
    rintro e w' ⟨rfl, rfl⟩
    go_wp2_with fail
    go_ret2
    exact ⟨rfl, rfl⟩
  · have hb' : q < 0 ∨ (D.stays.length : Int) ≤ q := by rcases hb with h | h; exact absurd h hd; exact h
    have e : readD D q = (170, []) := by unfold readD; rw [if_neg hd, if_pos hb']
    rw [e]
    have hd' : D.down = false := by simpa using hd
    rw [hd'] at HE
    clear e hd hd' hb
    by_cases q0 : q < 0
    · have q0' : decide (q < 0) = true := by simpa using q0
      clear hb'
      go_enter Try.func21, Try.ntmps21
      go_wp2_with fail
      refine HE.out.mono ?_
      rintro e w' ⟨rfl, rfl⟩
      go_wp2_with fail
      go_ret2
      exact ⟨rfl, rfl⟩
    · have q0' : decide (q < 0) = false := by simpa using q0
      have q1 : (D.stays.length : Int) ≤ q := by omega
      have q1' : decide ((D.stays.length : Int) ≤ q) = true := by simpa using q1
      clear hb'
      go_enter Try.func21, Try.ntmps21
      go_wp2_with fail
      refine HE.out.mono ?_
      rintro e w' ⟨rfl, rfl⟩
      go_wp2_with fail
      go_ret2
      exact ⟨rfl, rfl⟩

set_option maxHeartbeats 4000000 in
set_option maxRecDepth 100000 in
theorem read_good (B : Nat) (w : World) (g : Nat) (sv wv cv : Value) (D : Dk) (h : IsDisk B w g sv wv cv D) (q : Nat) (hq : q < D.stays.length) (hd : D.down = false) :
    Calls Try.prog 21 #[.pointer (some ⟨g, 0, none⟩), .int .i64 q] w fun e w' => ∃ v, e = .returned (.tuple #[v, .int .i64 0]) ∧ w'.ownsRow w.heap.size 5 1 v (readD D q).2.length (sec (readD D q).2) ∧ Below w.heap.size w w' := by
  obtain ⟨bs, cap, cur, rfl, hbB, hs, hcap, hmax, hsz, ht⟩ := h.open_
  obtain ⟨aw, cw, rfl, hwc⟩ := row_wait (mw := 0) h.wt h.ok.w
  have HE := Lib.hid (error_any w g _ _ cap _ cv _ _ _ h.db h.ok.n.1)
  rw [hd] at HE
  have e : (readD D q).2 = lastW (D.stays.getD q []) D.waits q D.waits.length := by
    unfold readD; rw [if_neg (by simp [hd]), if_neg (by omega)]; rfl
  rw [e]
  have hsx := h.ok.s (D.stays.getD q []) (by rw [List.getD_eq_getElem?_getD, List.getElem?_eq_getElem hq]; exact List.getElem_mem _)
  obtain ⟨k0, k1, k2, k3, k4, k5, kf⟩ := h.db.cells
  have hcs1 : ∀ j u, (sec (D.stays.getD q []))[j]? = some u → w.cell? ((⟨bs, q * 64, none⟩ : Addr).add j) = some u := fun j u hu => by
    have hj : j < 64 := by
      have := (List.getElem?_eq_some_iff.1 hu).1
      rw [sec_length, hsx.1] at this; exact this
    have h7 := h.s.cells (g := bs) rfl (q * 64 + j) u (by
      unfold secs
      rw [flat_get (L := 64) (fun y hy => by rw [sec_length]; exact (h.ok.s y hy).1) q j hq hj]
      rw [List.getD_eq_getElem?_getD, List.getElem?_eq_getElem hq] at hu
      exact hu)
    rw [add_none] at h7 ⊢
    rwa [Nat.zero_add] at h7
  have H := Lib.hid h
  have HWC := Lib.hid hwc
  have HCS := Lib.hid hcs1
  have HSX := Lib.hid hsx
  have hq1 : (q : Int) < D.stays.length := by omega
  have hq0 : (0 : Int) ≤ q := by omega
  have hn := h.ok.n
  have hS64 := Lib.hid (show (sec (D.stays.getD q [])).length = 64 by rw [sec_length]; exact hsx.1)
  clear h hwc hcs1 hsx hs hbB hcap hmax hsz ht e hd
  generalize hS : D.stays.getD q [] = S at *
  clear hS
  have q0' : decide ((q : Int) < 0) = false := by simp
  have q1' : decide ((D.stays.length : Int) ≤ q) = false := by simp; omega
  have hq' : ¬ D.stays.length ≤ q := by omega
  go_enter Try.func21, Try.ntmps21
  go_wp2_with fail
  refine HE.out.mono ?_
  rintro e w' ⟨rfl, rfl⟩
  have hw6 : ∀ o : Obj, (w.alloc o).cell? ⟨g, 1, none⟩ = some (.slice aw D.waits.length cw) := fun o => (World.cell?_of_block (Below.heap_alloc w o g (H.out.lt g (.inl rfl)))).trans k1
  go_wp2_with (first | (refine wpList_load_agg rfl 51 (.tmp 31) rfl ⟨bs, q * 64, none⟩ rfl (sec S) _ HCS.out Try.underlying51 rfl (by rw [i51, hS64.out]) ?_) | (refine wpList_alloc51 rfl rfl ?_; intro c hc) | (refine wpList_store_agg rfl 51 (.tmp 7) (.tmp 32) rfl w.heap.size 0 rfl (sec S) rfl c 51 (heap_alloc_new _ _) (by rw [hS64.out]; omega) (sec_one _) (by rw [i51, hS64.out]) ?_; rw [store_whole c _ (by rw [hS64.out, hc]), alloc_setRow]))
  have hkb0 : KB w.heap.size w.heap.size w (w.alloc (.cells (sec S).toArray 51)) := KB.alloc _ _ _ _ (Nat.le_refl _)
  have HKB0 := Lib.hid hkb0
  clear hkb0
  go_loopw [38] (fun i wr => ∃ k : Nat, k ≤ D.waits.length ∧ i = .int .i64 k ∧ KB w.heap.size w.heap.size w wr ∧ wr.heap[w.heap.size]? = some (.cells (sec (lastW S D.waits q k)).toArray 51 (0, 0)))
    (fun i _ => D.waits.length - (intOf i).toNat)
  case atStart => exact ⟨0, Nat.zero_le _, rfl, HKB0.out, heap_alloc_new _ _⟩
  case round =>
    obtain ⟨k, hk, rfl, hkb, hcb⟩ := hrel
    have HKB := Lib.hid hkb
    have HCB := Lib.hid hcb
    clear hkb hcb
    by_cases hlt : k < D.waits.length
    · obtain ⟨bw, rfl, hown, hcell⟩ := HWC.out (by omega)
      have hpk := H.out.ok.w (D.waits.getD k (0, [])) (by rw [List.getD_eq_getElem?_getD, List.getElem?_eq_getElem hlt]; exact List.getElem_mem _)
      have hcs0 := hcell k hlt
      have hbwlt : bw < w.heap.size := H.out.lt bw (.inr (.inr hown))
      have hcs1 : ∀ j u, (wrC (D.waits.getD k (0, [])))[j]? = some u → wr.cell? ((⟨bw, k * 65, none⟩ : Addr).add j) = some u := fun j u hu => by
        have e0 : (⟨bw, k * 65, none⟩ : Addr) = (⟨bw, 0, none⟩ : Addr).add (k * 65) := by rw [add_none, Nat.zero_add]
        rw [e0]
        rw [HKB.out.cell (by rw [add_block, add_block]; exact hbwlt) (by rw [add_block, add_block]; show bw ≠ _; omega)]
        exact hcs0 j u hu
      have elw := lastW_succ S D.waits q k
      clear hcell hcs0
      generalize D.waits.getD k (0, []) = p at *
      obtain ⟨p1, p2⟩ := p
      obtain ⟨hp1, hp2, hp3⟩ := hpk
      dsimp only at hp1 hp2 hp3 elw
      have hcs := Lib.hid hcs1
      have EL := Lib.hid elw
      have Hwl := Lib.hid (wrC_length (p1, p2) hp2)
      have hL64 := (lastW_ok (ws := D.waits) q HSX.out H.out.ok.w k hk).1
      have HL64 := Lib.hid hL64
      have hwn := HKB.out.size
      have hk6 : D.waits.length ≤ 10000 := by have := H.out.ok.r; omega
      obtain ⟨W2, hW2⟩ : ∃ W2, wr.alloc (.cells (wrC (p1, p2)).toArray 53) = W2 := ⟨_, rfl⟩
      have hB0 : W2.cell? ⟨wr.heap.size, 0, none⟩ = some (.int .i64 (p1 : Int)) := by rw [← hW2, cell_of_row _ wr.heap.size 0 _ 53 (0, 0) (heap_alloc_new _ _)]; rfl
      have hB1 : ∀ j u, (sec p2)[j]? = some u → W2.cell? ((⟨wr.heap.size, 1, none⟩ : Addr).add j) = some u := fun j u hu => by
        have h2 := cells_new wr (wrC (p1, p2)) 53 (j + 1) u (by simpa [wrC] using hu)
        rw [add_none] at h2 ⊢
        rw [show 1 + j = 0 + (j + 1) from by omega, ← hW2]
        exact h2
      have hB2 : W2.heap[w.heap.size]? = some (.cells (sec (lastW S D.waits q k)).toArray 51 (0, 0)) := by
        rw [← hW2, Below.heap_alloc wr _ _ (Array.getElem?_eq_some_iff.1 HCB.out).1]; exact HCB.out
      have hB3 : KB w.heap.size w.heap.size w W2 := by rw [← hW2]; exact HKB.out.trans (KB.alloc _ _ _ _ hwn)
      have HB3 := Lib.hid hB3
      have HW2 := Lib.hid hW2
      have HB1 := Lib.hid hB1
      have HB2 := Lib.hid hB2
      have hP64 := Lib.hid (show (sec p2).length = 64 by rw [sec_length]; exact hp2)
      clear hcs1 hown hbwlt elw hL64 hB1 hB2 hB3 hW2
      by_cases hpq : p1 = q
      · have hpq' : ((p1 : Int) == (q : Int)) = true := by simp; omega
        go_wp2_with (first | (refine wpList_load_agg rfl 53 (.tmp 40) rfl ⟨bw, k * 65, none⟩ rfl (wrC (p1, p2)) _ hcs.out Try.underlying53 rfl (by rw [i53, Hwl.out]) ?_) | (refine wpList_alloc53 rfl rfl ?_; intro c2 hc2) | (refine wpList_store_agg rfl 53 (.tmp 9) (.tmp 41) rfl wr.heap.size 0 rfl (wrC (p1, p2)) rfl c2 53 (heap_alloc_new _ _) (by rw [Hwl.out]; omega) (wrC_one _) (by rw [i53, Hwl.out]) ?_; rw [store_whole c2 _ (by rw [Hwl.out, hc2]), alloc_setRow, HW2.out]) | (refine wpList_load_agg rfl 51 (.tmp 46) rfl ⟨wr.heap.size, 1, none⟩ rfl (sec p2) _ HB1.out Try.underlying51 rfl (by rw [i51, hP64.out]) ?_) | (refine wpList_store_agg rfl 51 (.tmp 7) (.tmp 47) rfl w.heap.size 0 rfl (sec p2) rfl _ 51 HB2.out (by rw [hP64.out, List.size_toArray, sec_length, HL64.out]; decide) (sec_one _) (by rw [i51, hP64.out]) ?_; rw [store_whole _ _ (by rw [hP64.out, List.size_toArray, sec_length, HL64.out])]))
        go_roundw
        case rel =>
          refine ⟨k + 1, by omega, by simp, ?_, ?_⟩
          · exact HB3.out.trans KB.set
          · rw [heap_setRow_same HB2.out, EL.out, if_pos hpq]
        case measure => simp [intOf]; omega
      · have hpq' : ((p1 : Int) == (q : Int)) = false := by simp; omega
        go_wp2_with (first | (refine wpList_load_agg rfl 53 (.tmp 40) rfl ⟨bw, k * 65, none⟩ rfl (wrC (p1, p2)) _ hcs.out Try.underlying53 rfl (by rw [i53, Hwl.out]) ?_) | (refine wpList_alloc53 rfl rfl ?_; intro c2 hc2) | (refine wpList_store_agg rfl 53 (.tmp 9) (.tmp 41) rfl wr.heap.size 0 rfl (wrC (p1, p2)) rfl c2 53 (heap_alloc_new _ _) (by rw [Hwl.out]; omega) (wrC_one _) (by rw [i53, Hwl.out]) ?_; rw [store_whole c2 _ (by rw [Hwl.out, hc2]), alloc_setRow, HW2.out]))
        go_roundw
        case rel =>
          refine ⟨k + 1, by omega, by simp, ?_, ?_⟩
          · exact HB3.out
          · rw [HB2.out, EL.out, if_neg hpq]
        case measure => simp [intOf]; omega
    · obtain rfl : k = D.waits.length := by omega
      have hL64 := (lastW_ok (ws := D.waits) q HSX.out H.out.ok.w _ (Nat.le_refl _)).1
      have HC := Lib.hid (clB_any wr (some ⟨w.heap.size, 0, none⟩) 64 64 (sec (lastW S D.waits q D.waits.length)) (by rw [sec_length, hL64]) (by decide) (sec_one _) (fun _ => ⟨_, rfl, fun j u hu => by
        rw [add_none, Nat.zero_add, cell_of_row _ w.heap.size j _ 51 (0, 0) HCB.out]
        simpa using hu⟩))
      have HL64 := Lib.hid hL64
      clear hL64
      go_wp2_with fail
      refine HC.out.mono ?_
      rintro e w2 ⟨v, rfl, hown, hbel⟩
      have HO := Lib.hid hown
      have HBE := Lib.hid hbel
      clear hown hbel
      go_wp2_with fail
      go_ret2
      refine ⟨_, rfl, ?_, ?_⟩
      · rw [HL64.out]
        have hsz := HKB.out.size
        exact ⟨HO.out.1, HO.out.2.imp id (fun ⟨b, cap, cur, q1, q2, q3⟩ => ⟨b, cap, cur, q1, Nat.le_trans hsz q2, q3⟩)⟩
      · have h1 := HKB.out
        have h2 := HBE.out
        exact ⟨h2.os.trans h1.os, h2.tape.trans h1.tape, h2.output.trans h1.output, Nat.le_trans h1.size h2.size, fun k hk => (h2.block k (by have := h1.size; omega)).trans (h1.block k hk (by omega))⟩

set_option maxHeartbeats 1000000 in
theorem read_nil (w : World) (q : Int) : Calls Try.prog 21 #[.pointer none, .int .i64 q] w fun e w' => e = .returned (.tuple #[.slice none 0 0, .int .i64 1]) ∧ w = w' := by
  have HE := Lib.hid (error_nil w)
  go_enter Try.func21, Try.ntmps21
  go_wp2_with fail
  refine HE.out.mono ?_
  rintro e w' ⟨rfl, rfl⟩
  go_wp2_with fail
  go_ret2
  exact ⟨rfl, rfl⟩
end Go.Proofs.Ytbimbgefclohlaa
