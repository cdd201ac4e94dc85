/- One part of the proof that postmarktop.TopDisked returns true for every input and that its input reads behind the call as it read before (theorem topDisked_holds in YtbimbgefclohlaaC31). The laws of this text have their conditions in their own statements; the theorem that is claimed has none. -/
import Derived.Test.YtbimbgefclohlaaC3
set_option linter.unusedVariables false
set_option linter.unusedSimpArgs false
namespace Go.Proofs.Ytbimbgefclohlaa
open Go.RowKit

def strV (b : List Int) : Value := .string (strOfNums b)
def stC (l : List (List Int)) : List Value := l.map strV
def waP (p : Nat × List Int) : List Value := [.int .i64 (p.1 : Int), strV p.2]
def waC (l : List (Nat × List Int)) : List Value := l.flatMap waP
def XB (w : World) (g : Nat) (sv wv cv : Value) (room : Int) (down : Bool) (steps : Int) : Prop :=
  w.heap[g]? = some (.cells #[sv, wv, .int .i64 room, .bool (!down), .int .i64 steps, cv] 40 (0, 0))
theorem XB.cells {w : World} {g : Nat} {sv wv cv : Value} {room : Int} {down : Bool} {steps : Int} (h : XB w g sv wv cv room down steps) :
    w.cell? ⟨g, 0, none⟩ = some sv ∧ w.cell? ⟨g, 1, none⟩ = some wv ∧ w.cell? ⟨g, 2, none⟩ = some (.int .i64 room) ∧ w.cell? ⟨g, 3, none⟩ = some (.bool (!down)) ∧
    w.cell? ⟨g, 4, none⟩ = some (.int .i64 steps) ∧ w.cell? ⟨g, 5, none⟩ = some cv ∧ ∀ i, w.frozen? ⟨g, i, none⟩ = false := by
  unfold XB at h
  refine ⟨?_, ?_, ?_, ?_, ?_, ?_, fun i => frozen_of_row w g i _ 40 h⟩
  all_goals
    rw [cell_of_row w g _ _ 40 (0, 0) h]
    rfl

structure IsX (B : Nat) (w : World) (g : Nat) (sv wv cv : Value) (D : Dk) : Prop where
  ok : D.Ok
  base : B ≤ g
  xb : XB w g sv wv cv D.room D.down D.steps
  s : w.ownsRow B 9 1 sv D.stays.length (stC D.stays)
  wt : w.ownsRow B 61 2 wv D.waits.length (waC D.waits)
  c : Cho w cv D.choice

section
variable {B : Nat} {w w' : World} {g : Nat} {sv wv cv : Value} {D : Dk}
theorem IsX.types (h : IsX B w g sv wv cv D) (k : Nat) (hk : foot g sv wv k) : B ≤ k ∧ ∃ cells t, w.heap[k]? = some (.cells cells t (0, 0)) ∧ (t = 40 ∨ t = 9 ∨ t = 61) := by
  rcases hk with rfl | hk | hk
  · exact ⟨h.base, _, _, h.xb, .inl rfl⟩
  · obtain ⟨h1, cells, hc⟩ := own_typed' h.s k hk
    exact ⟨h1, cells, 9, hc, .inr (.inl rfl)⟩
  · obtain ⟨h1, cells, hc⟩ := own_typed' h.wt k hk
    exact ⟨h1, cells, 61, hc, .inr (.inr rfl)⟩
theorem IsX.lt (h : IsX B w g sv wv cv D) (k : Nat) (hk : foot g sv wv k) : k < w.heap.size := by
  obtain ⟨_, _, _, hc, _⟩ := h.types k hk
  exact (Array.getElem?_eq_some_iff.1 hc).1
theorem IsX.keep (h : IsX B w g sv wv cv D) (hm : ∀ k, foot g sv wv k → w'.heap[k]? = w.heap[k]?) (h5 : ∀ (k : Nat) (cells : Array Value), w.heap[k]? = some (.cells cells 5 (0, 0)) → w'.heap[k]? = w.heap[k]?) : IsX B w' g sv wv cv D :=
  ⟨h.ok, h.base, by unfold XB; rw [hm g (.inl rfl)]; exact h.xb, own_same h.s (fun k hk => hm k (.inr (.inl hk))), own_same h.wt (fun k hk => hm k (.inr (.inr hk))), h.c.keep h5⟩
theorem IsX.below (h : IsX B w g sv wv cv D) (hb : Below w.heap.size w w') : IsX B w' g sv wv cv D :=
  h.keep (fun k hk => hb.block k (h.lt k hk)) (fun k _ hk => hb.block k (Array.getElem?_eq_some_iff.1 hk).1)
theorem IsX.step (h : IsX B w g sv wv cv D) {F F' : Nat → Prop} (hs : Step F F' w w') (hF : ∀ k, F k → ¬ foot g sv wv k) (h5 : ∀ k, F k → ∃ cells t, w.heap[k]? = some (.cells cells t (0, 0)) ∧ t ≠ 5) : IsX B w' g sv wv cv D :=
  h.keep (fun k hk => hs.block k (h.lt k hk) (fun h1 => hF k h1 hk)) (fun k cells hk => hs.block k (Array.getElem?_eq_some_iff.1 hk).1 (fun h1 => by
    obtain ⟨c2, t, h2, h3⟩ := h5 k h1
    rw [hk] at h2
    injection h2 with h2
    injection h2 with _ h2
    exact h3 h2.symm))
theorem IsX.ne (h : IsX B w g sv wv cv D) (k : Nat) : (sv.ownBlock = some k → k ≠ g) ∧ (wv.ownBlock = some k → k ≠ g) ∧ (∀ cells, w.heap[k]? = some (.cells cells 5 (0, 0)) → k ≠ g) := by
  have hd : w.heap[g]? = _ := h.xb
  refine ⟨fun hk => ?_, fun hk => ?_, fun cells hc => ?_⟩
  · obtain ⟨_, c, hc⟩ := own_typed' h.s k hk
    rintro rfl
    rw [hd] at hc; cases hc
  · obtain ⟨_, c, hc⟩ := own_typed' h.wt k hk
    rintro rfl
    rw [hd] at hc; cases hc
  · rintro rfl
    rw [hd] at hc; cases hc
theorem IsX.put (h : IsX B w g sv wv cv D) {room : Int} {down : Bool} {steps : Int} (hg : XB w' g sv wv cv room down steps) (hm : ∀ k, k ≠ g → w'.heap[k]? = w.heap[k]?)
    (ok : ({ D with room := room, down := down, steps := steps } : Dk).Ok) : IsX B w' g sv wv cv { D with room := room, down := down, steps := steps } :=
  ⟨ok, h.base, hg, own_same h.s (fun k hk => hm k ((h.ne k).1 hk)), own_same h.wt (fun k hk => hm k ((h.ne k).2.1 hk)), h.c.keep (fun k cells hk => hm k ((h.ne k).2.2 cells hk))⟩
theorem IsX.set4 (h : IsX B w g sv wv cv D) (n : Int) (hn : 0 ≤ n ∧ n ≤ 9223372036854775807) : IsX B (w.setCell ⟨g, 4, none⟩ (.int .i64 n)) g sv wv cv { D with steps := n } :=
  h.put (room := D.room) (down := D.down) (steps := n) (by unfold XB; rw [heap_setCell_same _ _ _ _ 40 _ h.xb]; rfl) (fun k hk => heap_setCell_other _ _ _ _ hk) ⟨h.ok.n, h.ok.s, h.ok.w, h.ok.r, hn, h.ok.c⟩
theorem IsX.set3 (h : IsX B w g sv wv cv D) (b : Bool) : IsX B (w.setCell ⟨g, 3, none⟩ (.bool !b)) g sv wv cv { D with down := b } :=
  h.put (room := D.room) (down := b) (steps := D.steps) (by unfold XB; rw [heap_setCell_same _ _ _ _ 40 _ h.xb]; rfl) (fun k hk => heap_setCell_other _ _ _ _ hk) ⟨h.ok.n, h.ok.s, h.ok.w, h.ok.r, h.ok.st, h.ok.c⟩
theorem IsX.no5 (h : IsX B w g sv wv cv D) : ∀ k, foot g sv wv k → ∃ cells t, w.heap[k]? = some (.cells cells t (0, 0)) ∧ t ≠ 5 := fun k hk => by
  obtain ⟨_, cells, t, hc, ht⟩ := h.types k hk
  exact ⟨cells, t, hc, by rcases ht with rfl | rfl | rfl <;> decide⟩
theorem IsX.open_ (h : IsX B w g sv wv cv D) : ∃ bs cap cur, sv = .slice (some ⟨bs, 0, none⟩) D.stays.length cap ∧ B ≤ bs ∧ w.heap[bs]? = some (.cells cur 9 (0, 0)) ∧ D.stays.length ≤ cap ∧ cap ≤ maxLen ∧ cur.size = cap * 1 ∧ cur.toList.take (D.stays.length * 1) = stC D.stays := by
  rcases h.s.2 with ⟨_, h0⟩ | ⟨bs, cap, cur, e, h1, h2, h3, h4, h5, h6⟩
  · have := h.ok.n.1; omega
  · exact ⟨bs, cap, cur, e, h1, h2, h3, h4, h5, h6⟩
end

theorem wa_cells {w : World} {B : Nat} {wv : Value} {ws : List (Nat × List Int)} (h : w.ownsRow B 61 2 wv ws.length (waC ws)) :
    ∃ aw cw, wv = .slice aw ws.length cw ∧ (0 < ws.length → ∃ b, aw = some ⟨b, 0, none⟩ ∧ wv.ownBlock = some b ∧ b < w.heap.size ∧
      ∀ k, k < ws.length → w.cell? ⟨b, k * 2, none⟩ = some (.int .i64 ((ws.getD k (0, [])).1 : Int)) ∧ w.cell? ⟨b, k * 2 + 1, none⟩ = some (strV (ws.getD k (0, [])).2)) := by
  rcases h.2 with ⟨rfl, h0⟩ | ⟨b, cap, cur, rfl, h1, h2, h3, h4, h5, h6⟩
  · exact ⟨none, 0, by rw [h0], fun hp => by omega⟩
  · refine ⟨_, cap, rfl, fun _ => ⟨b, rfl, rfl, (Array.getElem?_eq_some_iff.1 h2).1, fun k hk => ?_⟩⟩
    have hf := fun j (hj : j < 2) => flat_get (l := ws) (f := waP) (L := 2) (fun x _ => rfl) k j hk hj
    have hd : ws.getD k (0, []) = ws[k] := by rw [List.getD_eq_getElem?_getD, List.getElem?_eq_getElem hk]; rfl
    rw [hd]
    have c0 := h.cells (g := b) rfl (k * 2) _ (hf 0 (by decide))
    have c1 := h.cells (g := b) rfl (k * 2 + 1) _ (hf 1 (by decide))
    rw [add_none, Nat.zero_add] at c0 c1
    exact ⟨c0, c1⟩
theorem st_cells {w : World} {B : Nat} {bs cap : Nat} {l : List (List Int)} (h : w.ownsRow B 9 1 (.slice (some ⟨bs, 0, none⟩) l.length cap) l.length (stC l)) (k : Nat) (hk : k < l.length) :
    w.cell? ⟨bs, k, none⟩ = some (strV (l.getD k [])) := by
  have c0 := h.cells (g := bs) rfl k (strV (l.getD k [])) ?_
  · rw [add_none, Nat.zero_add] at c0; exact c0
  simp [stC, hk, List.getD_eq_getElem?_getD, List.getElem?_eq_getElem hk]

set_option maxHeartbeats 4000000 in
set_option maxRecDepth 100000 in
theorem seen_x (B : Nat) (w : World) (g : Nat) (sv wv cv : Value) (D : Dk) (h : IsX B w g sv wv cv D) (q : Nat) (hq : q < D.stays.length) :
    Calls Try.prog 22 #[.pointer (some ⟨g, 0, none⟩), .int .i64 q] w fun e w' => e = .returned (strV (lastW (D.stays.getD q []) D.waits q D.waits.length)) ∧ Below w.heap.size w w' := by
  obtain ⟨bs, cap, cur, rfl, hbB, hs, hcap, hmax, hsz, ht⟩ := h.open_
  obtain ⟨aw, cw, rfl, hwc⟩ := wa_cells h.wt
  obtain ⟨k0, k1, k2, k3, k4, k5, kf⟩ := h.xb.cells
  have hsq := st_cells h.s q hq
  have H := Lib.hid h
  have HWC := Lib.hid hwc
  have hn := h.ok.n
  have hk6 : D.waits.length ≤ 10000 := by have := h.ok.r; omega
  clear h hwc hs hbB hcap hmax hsz ht
  have hq1 : (q : Int) < D.stays.length := by omega
  have hq0 : (0 : Int) ≤ q := by omega
  generalize hS : D.stays.getD q [] = S at *
  clear hS
  obtain ⟨sq, hsq'⟩ : ∃ sq, strV S = .string sq := ⟨_, rfl⟩
  rw [hsq'] at hsq
  have HSQ := Lib.hid hsq'
  clear hsq'
  go_enter Try.func22, Try.ntmps22
  go_wp2_with fail
  go_loopw [20, 5] (fun i v wr => ∃ k : Nat, k ≤ D.waits.length ∧ i = .int .i64 k ∧ v = strV (lastW S D.waits q k) ∧ Below w.heap.size w wr)
    (fun i _ _ => D.waits.length - (intOf i).toNat)
  case atStart => exact ⟨0, Nat.zero_le _, rfl, HSQ.out.symm, Below.refl _ _⟩
  case round =>
    obtain ⟨k, hk, rfl, rfl, hbel⟩ := hrel
    have HB := Lib.hid hbel
    clear hbel
    by_cases hlt : k < D.waits.length
    · obtain ⟨bw, rfl, hown, hbw, hcell⟩ := HWC.out (by omega)
      have hcs0 := hcell k hlt
      have elw := lastW_succ S D.waits q k
      clear hcell
      generalize D.waits.getD k (0, []) = p at *
      obtain ⟨p1, p2⟩ := p
      dsimp only at elw hcs0
      obtain ⟨hcs0, hcs1⟩ := hcs0
      have hw : ∀ p : Addr, p.block = bw → wr.cell? p = w.cell? p := fun p hp => World.cell?_of_block (HB.out.block p.block (by rw [hp]; exact hbw))
      have hc0 : wr.cell? ⟨bw, k * 2, none⟩ = some (.int .i64 (p1 : Int)) := (hw _ rfl).trans hcs0
      have hc1 : wr.cell? ⟨bw, k * 2 + 1, none⟩ = some (.string (strOfNums p2)) := (hw _ rfl).trans hcs1
      have hwn := HB.out.size
      have EL := Lib.hid elw
      clear hcs0 hcs1 hw hown hbw elw
      by_cases hpq : p1 = q
      · have hpq' : ((p1 : Int) == (q : Int)) = true := by simp; omega
        go_wp2
        go_roundw
        case rel =>
          refine ⟨k + 1, by omega, by simp, ?_, ?_⟩
          · rw [EL.out, if_pos hpq]; rfl
          · exact HB.out.alloc hwn _
        case measure => simp [intOf]; omega
      · have hpq' : ((p1 : Int) == (q : Int)) = false := by simp; omega
        go_wp2
        go_roundw
        case rel =>
          refine ⟨k + 1, by omega, by simp, ?_, ?_⟩
          · rw [EL.out, if_neg hpq]
          · exact HB.out.alloc hwn _
        case measure => simp [intOf]; omega
    · obtain rfl : k = D.waits.length := by omega
      go_wp2_with fail
      go_ret
      exact ⟨rfl, HB.out⟩
end Go.Proofs.Ytbimbgefclohlaa
