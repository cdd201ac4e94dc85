/- One part of the proof that postmarktop.TopDisked returns true for every input and that its input reads behind the call as it read before (theorem topDisked_holds in YtbimbgefclohlaaC31). The laws of this text have their conditions in their own statements; the theorem that is claimed has none. -/
import Derived.Test.YtbimbgefclohlaaB7
set_option linter.unusedVariables false
set_option linter.unusedSimpArgs false
namespace Go.Proofs.Ytbimbgefclohlaa
open Go.RowKit

def gelem (ws : List (Nat × List Int)) (j : Nat) : Nat × List Int × Nat := ((ws.getD j (0, [])).1, (ws.getD j (0, [])).2, 64)
def flushS (s : List (List Int)) (ws : List (Nat × List Int)) : List (List Int) := (upto (gelem ws) ws.length).foldl putS s
theorem fold_take {s : List (List Int)} {cur : List Value} {el : Nat → Nat × List Int × Nat} {N : Nat} (hs : ∀ y ∈ s, y.length = 64 ∧ byteL y)
    (hel : ∀ j, j < N → (el j).1 < s.length ∧ ((el j).2.1.length = 64 ∧ byteL (el j).2.1) ∧ (el j).2.2 ≤ 64)
    (ht : cur.take (s.length * 64) = secs s) (hl : s.length * 64 ≤ cur.length) (k : Nat) (hk : k ≤ N) :
    ((upto el k).foldl stepC cur).take (s.length * 64) = secs ((upto el k).foldl putS s) ∧ ((upto el k).foldl putS s).length = s.length ∧ ((upto el k).foldl stepC cur).length = cur.length ∧ (∀ y ∈ (upto el k).foldl putS s, y.length = 64 ∧ byteL y) := by
  induction k with
  | zero => exact ⟨ht, rfl, rfl, hs⟩
  | succ k ih =>
    obtain ⟨h1, h2, h3, h4⟩ := ih (by omega)
    obtain ⟨e1, e2, e3⟩ := hel k (by omega)
    simp only [upto_succ, List.foldl_append, List.foldl_cons, List.foldl_nil]
    generalize (upto el k).foldl stepC cur = C at *
    generalize (upto el k).foldl putS s = S at *
    generalize el k = x at *
    have e1' : (x.1 + 1) * 64 ≤ s.length * 64 := Nat.mul_le_mul_right _ e1
    have h5 := stepC_take (s := S) (cur := C) (x := x) (fun y hy => (h4 y hy).1) (by omega) e2.1 e3 (by rw [h2]; exact h1) (by rw [h2, h3]; exact hl)
    rw [putS_length, h2] at h5
    exact ⟨h5, by rw [putS_length]; exact h2, by rw [stepC_length _ _ e2.1 e3 (by omega)]; exact h3, putS_ok h4 (by omega) e2 e3⟩
theorem gelem_ok {ws : List (Nat × List Int)} {n : Nat} (hw : ∀ p ∈ ws, p.1 < n ∧ p.2.length = 64 ∧ byteL p.2) (j : Nat) (hj : j < ws.length) :
    (gelem ws j).1 < n ∧ ((gelem ws j).2.1.length = 64 ∧ byteL (gelem ws j).2.1) ∧ (gelem ws j).2.2 ≤ 64 := by
  have hp := hw (ws.getD j (0, [])) (by rw [List.getD_eq_getElem?_getD, List.getElem?_eq_getElem hj]; exact List.getElem_mem _)
  exact ⟨hp.1, hp.2, Nat.le_refl _⟩
theorem stepC_whole (cur : List Value) (a : Nat) (b : List Int) (hb : b.length = 64) : cur.take (a * 64) ++ sec b ++ cur.drop (a * 64 + (sec b).length) = stepC cur (a, b, 64) := by
  simp only [stepC]
  rw [List.take_of_length_le (l := sec b) (by rw [sec_length]; omega), sec_length, hb]

theorem wpList_alloc53 {ops : Array Oper} {rest : List Oper} {o : Oper} {a : Act} {w : World} {Q : Exit → Act → World → Prop} (hgd : o.guard = none) (ho : o.op = .alloc 53)
    (h : ∀ c : Array Value, c.size = 65 → wpList Try.prog ops Q rest (a.put o.dst (.pointer (some ⟨w.heap.size, 0, none⟩))) (w.alloc (.cells c 53))) : wpList Try.prog ops Q (o :: rest) a w := by
  refine wpList_plain hgd fun K hK => ?_
  obtain ⟨c, hc, hr⟩ := z53 w
  unfold Oper.wp execOp
  simp only [ho, Sem.run_bind, hr, Result.andThen_ok, Sem.run_pure]
  exact hK _ _ (h c hc)

def flushD (D : Dk) : Int × Dk :=
  if D.down = true then (171, D) else
  if (stepD D).1 = true then (171, (stepD D).2) else (0, { (stepD D).2 with stays := flushS (stepD D).2.stays (stepD D).2.waits, waits := [] })

theorem KB.set {n0 bs : Nat} {w : World} {cs : Array Value} : KB n0 bs w (w.setRow bs cs) :=
  ⟨rfl, rfl, rfl, by simp [World.setRow], fun k _ hne => by simp [World.setRow, Array.getElem?_modify, Ne.symm hne]⟩
theorem KB.drew {n0 bs : Nat} {w w' : World} (h : KB n0 bs w w') : KB n0 bs w w'.drew := ⟨h.os, h.tape, h.output, h.size, h.block⟩
theorem heap_setRow_same {w : World} {bs : Nat} {cur cs : Array Value} {t : TypeId} (h : w.heap[bs]? = some (.cells cur t (0, 0))) : (w.setRow bs cs).heap[bs]? = some (.cells cs t (0, 0)) := by
  simp [World.setRow, Array.getElem?_modify, h]
/-- what the loop of Flush leaves -/
theorem flushed {B : Nat} {w wr : World} {g bs cap : Nat} {wv cv : Value} {D : Dk} {cur : Array Value} (h : IsDisk B w g (.slice (some ⟨bs, 0, none⟩) D.stays.length cap) wv cv D)
    (hs : w.heap[bs]? = some (.cells cur 51 (0, 0))) (hcap : D.stays.length ≤ cap) (hmax : cap ≤ maxLen) (hsz : cur.size = cap * 64) (ht : cur.toList.take (D.stays.length * 64) = secs D.stays)
    (hkb : KB w.heap.size bs w wr) (hc : wr.heap[bs]? = some (.cells ((upto (gelem D.waits) D.waits.length).foldl stepC cur.toList).toArray 51 (0, 0))) :
    IsDisk B (wr.setCell ⟨g, 1, none⟩ (.slice none 0 0)) g (.slice (some ⟨bs, 0, none⟩) D.stays.length cap) (.slice none 0 0) cv { D with stays := flushS D.stays D.waits, waits := [] } ∧
    Step (foot g (.slice (some ⟨bs, 0, none⟩) D.stays.length cap) wv) (foot g (.slice (some ⟨bs, 0, none⟩) D.stays.length cap) (.slice none 0 0)) w (wr.setCell ⟨g, 1, none⟩ (.slice none 0 0)) ∧ DB wr g (.slice (some ⟨bs, 0, none⟩) D.stays.length cap) wv cv D.room D.down D.steps := by
  have hl : D.stays.length * 64 ≤ cur.toList.length := by rw [Array.length_toList, hsz]; exact Nat.mul_le_mul_right _ hcap
  obtain ⟨f1, f2, f3, f4⟩ := fold_take (el := gelem D.waits) (N := D.waits.length) h.ok.s (gelem_ok h.ok.w) ht hl _ (Nat.le_refl _)
  have hgbs : g ≠ bs := fun e => (h.ne bs).1 rfl e.symm
  have hdb : DB wr g (.slice (some ⟨bs, 0, none⟩) D.stays.length cap) wv cv D.room D.down D.steps := by
    unfold DB; rw [hkb.block g (h.lt g (.inl rfl)) hgbs]; exact h.db
  have e1 := heap_setCell_same wr g 1 _ 49 (.slice none 0 0) hdb
  have hoth : ∀ k, k ≠ g → (wr.setCell ⟨g, 1, none⟩ (.slice none 0 0)).heap[k]? = wr.heap[k]? := fun k hk => heap_setCell_other _ _ _ _ hk
  refine ⟨⟨⟨by simp only [flushS, f2]; exact h.ok.n, f4, (fun p hp => by cases hp), ?_, h.ok.st, h.ok.c⟩, h.base, e1, ?_, World.ownsRow_nil _ _ _ _, ?_⟩, ?_, hdb⟩
  · have := h.ok.r; simp only [List.length_nil]; omega
  · have hb := (own_typed' h.s bs rfl).1
    refine ⟨?_, .inr ⟨bs, cap, _, by simp only [flushS, f2], hb, (hoth bs (Ne.symm hgbs)).trans hc, by simp only [flushS, f2]; exact hcap, hmax, ?_, ?_⟩⟩
    · simp only [flushS]
      rw [← f1, List.length_take, f3, f2]
      omega
    · rw [List.size_toArray, f3, Array.length_toList]; exact hsz
    · simp only [flushS, f2]; exact f1
  · refine h.c.keep (fun k cells hk => ?_)
    rw [hoth k ((h.ne k).2.2 cells hk)]
    refine hkb.block k (Array.getElem?_eq_some_iff.1 hk).1 (fun e => ?_)
    rw [e, hs] at hk
    cases hk
  · refine ⟨hkb.os, hkb.tape, hkb.output, by have := hkb.size; simp only [World.setCell, Array.size_modify]; omega, fun k hk hF => ?_, fun k hk => ?_⟩
    · rw [hoth k (fun e => hF (.inl e)), hkb.block k hk (fun e => hF (.inr (.inl (by rw [e]; rfl))))]
    · rcases hk with h1 | h1 | h1
      · exact .inl (.inl h1)
      · exact .inl (.inr (.inl h1))
      · simp [Value.ownBlock] at h1

set_option maxHeartbeats 4000000 in
set_option maxRecDepth 100000 in
theorem flush_disk (B : Nat) (w : World) (g : Nat) (sv wv cv : Value) (D : Dk) (h : IsDisk B w g sv wv cv D) :
    Calls Try.prog 24 #[.pointer (some ⟨g, 0, none⟩)] w fun e w' => e = .returned (.int .i64 (flushD D).1) ∧ Left B w w' g sv wv (flushD D).2 := by
  obtain ⟨A, c, hsv⟩ := h.svform
  have hdb := h.db
  rw [hsv] at hdb
  have HE := Lib.hid (error_any w g A _ c _ cv _ _ _ hdb h.ok.n.1)
  have HS := Lib.hid (step_disk B w g sv wv cv _ h)
  have H := Lib.hid h
  clear h hdb hsv
  by_cases hd : D.down = true
  · have e : flushD D = (171, D) := by unfold flushD; rw [if_pos hd]
    rw [e]
    rw [hd] at HE
    clear e hd
    go_enter Try.func24, Try.ntmps24
    go_wp2_with fail
    refine HE.out.mono ?_
    rintro e w' ⟨rfl, rfl⟩
    go_wp2_with fail
    go_ret
    exact ⟨rfl, _, _, _, H.out, Step.refl _ _⟩
  · have e : flushD D = if (stepD D).1 = true then (171, (stepD D).2) else (0, { (stepD D).2 with stays := flushS (stepD D).2.stays (stepD D).2.waits, waits := [] }) := by unfold flushD; rw [if_neg hd]
    rw [e]
    have hd' : D.down = false := by simpa using hd
    rw [hd'] at HE
    clear e hd hd'
    cases hst : (stepD D).1
    · rw [hst] at HS
      rw [if_neg (by simp)]
      generalize (stepD D).2 = D1 at *
      clear hst
      go_enter Try.func24, Try.ntmps24
      go_wp2_with fail
      refine HE.out.mono ?_
      rintro e w' ⟨rfl, rfl⟩
      go_wp2_with fail
      refine HS.out.mono ?_
      rintro e w1 ⟨rfl, sv1, wv1, cv1, h1, hS1⟩
      have HS1 := Lib.hid hS1
      obtain ⟨bs, cap, cur, rfl, hbB, hs, hcap, hmax, hsz, ht⟩ := h1.open_
      obtain ⟨aw, cw, rfl, hwc⟩ := row_wait (mw := 0) h1.wt h1.ok.w
      obtain ⟨k0, k1, k2, k3, k4, k5, kf⟩ := h1.db.cells
      have H1 := Lib.hid h1
      have HWC := Lib.hid hwc
      have HSB := Lib.hid hs
      have HCAP := Lib.hid (And.intro hcap (And.intro hmax (And.intro hsz ht)))
      clear h1 hwc hS1 hs hcap hmax hsz ht hbB
      go_wp2_with fail
      clear k0 k1 k2 k3 k4 k5 kf
      go_loopw [18] (fun i wr => ∃ k : Nat, k ≤ D1.waits.length ∧ i = .int .i64 k ∧ KB w1.heap.size bs w1 wr ∧ wr.heap[bs]? = some (.cells ((upto (gelem D1.waits) k).foldl stepC cur.toList).toArray 51 (0, 0)))
        (fun i _ => D1.waits.length - (intOf i).toNat)
      case atStart => exact ⟨0, Nat.zero_le _, rfl, KB.refl _ _ _, HSB.out⟩
      case round =>
        obtain ⟨k, hk, rfl, hkb, hcb⟩ := hrel
        have HKB := Lib.hid hkb
        have HCB := Lib.hid hcb
        clear hkb hcb
        by_cases hlt : k < D1.waits.length
        · obtain ⟨bw, rfl, hown, hcell⟩ := HWC.out (by omega)
          have hpk := H1.out.ok.w (D1.waits.getD k (0, [])) (by rw [List.getD_eq_getElem?_getD, List.getElem?_eq_getElem hlt]; exact List.getElem_mem _)
          have hcs0 := hcell k hlt
          have hbwne : bw ≠ bs := fun e => by
            obtain ⟨_, c2, hc2⟩ := own_typed' H1.out.wt bw hown
            rw [e, HSB.out] at hc2; cases hc2
          have hbwlt : bw < w1.heap.size := H1.out.lt bw (.inr (.inr hown))
          have hcs1 : ∀ j u, (wrC (D1.waits.getD k (0, [])))[j]? = some u → wr.cell? ((⟨bw, k * 65, none⟩ : Addr).add j) = some u := fun j u hu => by
            have e0 : (⟨bw, k * 65, none⟩ : Addr) = (⟨bw, 0, none⟩ : Addr).add (k * 65) := by rw [add_none, Nat.zero_add]
            rw [e0]
            rw [HKB.out.cell (by rw [add_block, add_block]; exact hbwlt) (by rw [add_block, add_block]; exact hbwne)]
            exact hcs0 j u hu
          have egel : gelem D1.waits k = ((D1.waits.getD k (0, [])).1, (D1.waits.getD k (0, [])).2, 64) := rfl
          clear hcell hcs0
          generalize D1.waits.getD k (0, []) = p at *
          obtain ⟨p1, p2⟩ := p
          obtain ⟨hp1, hp2, hp3⟩ := hpk
          dsimp only at hp1 hp2 hp3
          have hcs := Lib.hid hcs1
          have EG := Lib.hid egel
          have Hwl := Lib.hid (wrC_length (p1, p2) hp2)
          clear hcs1 hown hbwne hbwlt egel
          go_wp2_with (first | (refine wpList_load_agg rfl 53 (.tmp 20) rfl ⟨bw, k * 65, none⟩ rfl (wrC (p1, p2)) _ hcs.out Try.underlying53 rfl (by rw [i53, Hwl.out]) ?_) | (refine wpList_alloc53 rfl rfl ?_; intro c hc) | (refine wpList_store_agg rfl 53 (.tmp 5) (.tmp 21) rfl wr.heap.size 0 rfl (wrC (p1, p2)) rfl c 53 (heap_alloc_new _ _) (by rw [Hwl.out]; omega) (wrC_one _) (by rw [i53, Hwl.out]) ?_; rw [store_whole c _ (by rw [Hwl.out, hc]), alloc_setRow]))
          have hdw := H1.out.db
          have hglt := H1.out.lt g (.inl rfl)
          have hbslt := H1.out.lt bs (.inr (.inl rfl))
          have hgbs : g ≠ bs := fun e => (H1.out.ne bs).1 rfl e.symm
          have hsz := HKB.out.size
          have hn64 := H1.out.ok.n.2
          have hl : D1.stays.length * 64 ≤ cur.toList.length := by rw [Array.length_toList, HCAP.out.2.2.1]; exact Nat.mul_le_mul_right _ HCAP.out.1
          obtain ⟨f1, f2, f3, f4⟩ := fold_take (el := gelem D1.waits) (N := D1.waits.length) H1.out.ok.s (gelem_ok H1.out.ok.w) HCAP.out.2.2.2 hl k hk
          have hp64 : p1 * 64 + 64 ≤ D1.stays.length * 64 := by omega
          have hk6 : D1.waits.length ≤ 10000 := by have := H1.out.ok.r; omega
          rename_i Kx hKx
          refine flush_region _ g bs D1.stays.length cap wr.heap.size p1 p2 ((upto (gelem D1.waits) k).foldl stepC cur.toList).toArray _ ?_ ?_ ?_ ?_ hp2 hp1 hn64 ?_ ?_ _ _ _ _ _ _ _ _ _ _ _ _ _ _ _ _ _ _ _ _ _ _ _ _ _ _ _ _ _ _ _ _ _ ?_
          · rintro c a w' ⟨_, h, _⟩; cases h
          · rw [World.cell?_of_block (Below.heap_alloc wr _ g (by omega)), HKB.out.cell (p := ⟨g, 0, none⟩) hglt hgbs]
            exact hdw.cells.1
          · rw [cell_of_row _ wr.heap.size 0 _ 53 (0, 0) (heap_alloc_new _ _)]; rfl
          · intro j u hu
            have h2 := cells_new wr (wrC (p1, p2)) 53 (j + 1) u (by simpa [wrC] using hu)
            rw [add_none] at h2 ⊢
            rw [show 1 + j = 0 + (j + 1) from by omega]
            exact h2
          · show (wr.alloc _).heap[bs]? = _
            rw [Below.heap_alloc wr _ bs (by omega)]
            exact HCB.out
          · rw [List.size_toArray, f3]; omega
          intro x22 x23 x24 x25 x26 x27 x28 x29 x30
          rw [List.toList_toArray, stepC_whole _ _ _ hp2]
          refine hKx _ _ ?_
          have HN := Lib.hid (And.intro hglt (And.intro hbslt (And.intro hgbs hsz)))
          clear hdw hglt hbslt hgbs hsz hn64 hl f1 f2 f3 f4 hp64
          go_wp2_with fail
          go_roundw
          case rel =>
            refine ⟨k + 1, by omega, by simp, ?_, ?_⟩
            · exact (HKB.out.trans ((KB.alloc _ _ _ _ HN.out.2.2.2).drew)).trans KB.set
            · rw [heap_setRow_same (cur := ((upto (gelem D1.waits) k).foldl stepC cur.toList).toArray) (t := 51) (by show (wr.alloc _).heap[bs]? = _; rw [Below.heap_alloc wr _ bs (by have := HN.out; omega)]; exact HCB.out), upto_succ, List.foldl_append, EG.out]
              rfl
          case measure => simp [intOf]; omega
        · obtain rfl : k = D1.waits.length := by omega
          obtain ⟨q1, q2, q3⟩ := flushed H1.out HSB.out HCAP.out.1 HCAP.out.2.1 HCAP.out.2.2.1 HCAP.out.2.2.2 HKB.out HCB.out
          obtain ⟨k0, k1, k2, k3, k4, k5, kf⟩ := q3.cells
          have HQ1 := Lib.hid q1
          have HQ2 := Lib.hid q2
          clear q1 q2 q3
          go_wp2_with fail
          go_ret
          exact ⟨rfl, _, _, _, HQ1.out, HS1.out.trans HQ2.out⟩
    · rw [hst] at HS
      rw [if_pos rfl]
      go_enter Try.func24, Try.ntmps24
      go_wp2_with fail
      refine HE.out.mono ?_
      rintro e w' ⟨rfl, rfl⟩
      go_wp2_with fail
      refine HS.out.mono ?_
      rintro e w1 ⟨rfl, hL⟩
      have HL := Lib.hid hL
      clear hL
      go_wp2_with fail
      go_ret
      exact ⟨rfl, HL.out⟩

set_option maxHeartbeats 1000000 in
theorem flush_nil (w : World) : Calls Try.prog 24 #[.pointer none] w fun e w' => e = .returned (.int .i64 1) ∧ w = w' := by
  have HE := Lib.hid (error_nil w)
  go_enter Try.func24, Try.ntmps24
  go_wp2_with fail
  refine HE.out.mono ?_
  rintro e w' ⟨rfl, rfl⟩
  go_wp2_with fail
  go_ret
  exact ⟨rfl, rfl⟩
end Go.Proofs.Ytbimbgefclohlaa
