/- One part of the proof that postmarktop.TopDisked returns true for every input and that its input reads behind the call as it read before (theorem topDisked_holds in YtbimbgefclohlaaC31). The laws of this text have their conditions in their own statements; the theorem that is claimed has none. -/
import Derived.Test.YtbimbgefclohlaaC5
set_option linter.unusedVariables false
set_option linter.unusedSimpArgs false
namespace Go.Proofs.Ytbimbgefclohlaa
open Go.RowKit

theorem str_size (p : List Int) : (strOfNums p).size = p.length := by simp [strOfNums, ByteArray.size]
theorem str_cut (p s : List Int) (k : Nat) : (strOfNums p).extract 0 k ++ (strOfNums s).extract k (strOfNums s).size = strOfNums (p.take k ++ s.drop k) := by
  apply ByteArray.ext
  rw [ByteArray.data_append, ByteArray.data_extract, ByteArray.data_extract, str_size]
  apply Array.ext'
  simp [strOfNums, List.map_take, List.map_drop]
  rw [List.take_of_length_le (by simp)]
theorem fold_ok {s : List (List Int)} {el : Nat → Nat × List Int × Nat} {N : Nat} (hs : ∀ y ∈ s, y.length = 64 ∧ byteL y)
    (hel : ∀ j, j < N → (el j).1 < s.length ∧ ((el j).2.1.length = 64 ∧ byteL (el j).2.1) ∧ (el j).2.2 ≤ 64) (k : Nat) (hk : k ≤ N) :
    ((upto el k).foldl putS s).length = s.length ∧ (∀ y ∈ (upto el k).foldl putS s, y.length = 64 ∧ byteL y) := by
  induction k with
  | zero => exact ⟨rfl, hs⟩
  | succ k ih =>
    obtain ⟨h2, h4⟩ := ih (by omega)
    obtain ⟨e1, e2, e3⟩ := hel k (by omega)
    simp only [upto_succ, List.foldl_append, List.foldl_cons, List.foldl_nil]
    exact ⟨by rw [putS_length]; exact h2, putS_ok h4 (by omega) e2 e3⟩
theorem st_set {cur : Array Value} {S : List (List Int)} {n : Nat} (q : Nat) (b : List Int) (ht : cur.toList.take n = stC S) : (cur.setIfInBounds q (strV b)).toList.take n = stC (S.set q b) := by
  rw [Array.toList_setIfInBounds, List.take_set, ht]
  simp [stC, List.map_set]
theorem st_get {cur : Array Value} {S : List (List Int)} {n : Nat} (q : Nat) (ht : cur.toList.take n = stC S) (hq : q < S.length) : cur[q]? = some (strV (S.getD q [])) := by
  have h1 : (stC S)[q]? = some (strV (S.getD q [])) := by simp [stC, hq, List.getD_eq_getElem?_getD, List.getElem?_eq_getElem hq]
  rw [← ht] at h1
  rw [← Array.getElem?_toList]
  have : q < (cur.toList.take n).length := (List.getElem?_eq_some_iff.1 h1).1
  rw [List.length_take] at this
  rw [List.getElem?_take, if_pos (by omega)] at h1
  exact h1

theorem x_end {W : World} {g : Nat} {sv wv cv : Value} {room : Int} {down : Bool} {steps : Int} (h : XB W g sv wv cv room down steps) :
    XB ((((W.setCell ⟨g, 1, none⟩ (.slice none 0 0)).setCell ⟨g, 3, none⟩ (.bool false)).setCell ⟨g, 4, none⟩ (.int .i64 0)).setCell ⟨g, 5, none⟩ (.slice none 0 0)) g sv (.slice none 0 0) (.slice none 0 0) room true 0 ∧
    (∀ k, k ≠ g → ((((W.setCell ⟨g, 1, none⟩ (.slice none 0 0)).setCell ⟨g, 3, none⟩ (.bool false)).setCell ⟨g, 4, none⟩ (.int .i64 0)).setCell ⟨g, 5, none⟩ (.slice none 0 0)).heap[k]? = W.heap[k]?) ∧
    ((((W.setCell ⟨g, 1, none⟩ (.slice none 0 0)).setCell ⟨g, 3, none⟩ (.bool false)).setCell ⟨g, 4, none⟩ (.int .i64 0)).setCell ⟨g, 5, none⟩ (.slice none 0 0)).heap.size = W.heap.size := by
  unfold XB at h
  have h1 := heap_setCell_same W g 1 _ 40 (.slice none 0 0) h
  have h2 := heap_setCell_same _ g 3 _ 40 (.bool false) h1
  have h3 := heap_setCell_same _ g 4 _ 40 (.int .i64 0) h2
  have h4 := heap_setCell_same _ g 5 _ 40 (.slice none 0 0) h3
  refine ⟨h4, fun k hk => ?_, by simp [World.setCell]⟩
  rw [heap_setCell_other _ _ _ _ hk, heap_setCell_other _ _ _ _ hk, heap_setCell_other _ _ _ _ hk, heap_setCell_other _ _ _ _ hk]

/-- what the rounds of a fall, or of a flush, leave of the sectors -/
structure XR (w wr : World) (bs cap n : Nat) (S : List (List Int)) : Prop where
  kb : KB w.heap.size bs w wr
  row : ∃ cur : Array Value, wr.heap[bs]? = some (.cells cur 9 (0, 0)) ∧ cur.size = cap * 1 ∧ cur.toList.take n = stC S
theorem XR.own {w wr : World} {B bs cap n : Nat} {S : List (List Int)} (h : XR w wr bs cap n S) (hB : B ≤ bs) (hn : S.length = n) (hc : n ≤ cap) (hm : cap ≤ maxLen) {w2 : World} (hk : w2.heap[bs]? = wr.heap[bs]?) :
    w2.ownsRow B 9 1 (.slice (some ⟨bs, 0, none⟩) n cap) S.length (stC S) := by
  obtain ⟨cur, h1, h2, h3⟩ := h.row
  subst hn
  exact ⟨by simp [stC], .inr ⟨bs, cap, cur, rfl, hB, hk.trans h1, hc, hm, h2, by rw [Nat.mul_one]; exact h3⟩⟩

/-- the facts that the region reads, behind the round's box -/
theorem XR.reads {w wr : World} {g bs cap n : Nat} {S : List (List Int)} {sv : Value} (h : XR w wr bs cap n S) (hg : g < w.heap.size) (hgb : g ≠ bs) (h0 : w.cell? ⟨g, 0, none⟩ = some sv) (q : Nat) (hq : q < S.length) (o : Obj) (hb : bs < w.heap.size) :
    (wr.alloc o).drew.cell? ⟨g, 0, none⟩ = some sv ∧ (wr.alloc o).drew.cell? ⟨bs, q, none⟩ = some (.string (strOfNums (S.getD q []))) ∧ (wr.alloc o).drew.frozen? ⟨bs, q, none⟩ = false := by
  have hsz := h.kb.size
  obtain ⟨cur, h1, h2, h3⟩ := h.row
  have h4 : (wr.alloc o).drew.heap[bs]? = some (.cells cur 9 (0, 0)) := by
    show (wr.alloc o).heap[bs]? = _
    rw [Below.heap_alloc wr _ bs (by omega)]; exact h1
  refine ⟨?_, ?_, frozen_of_row _ bs q _ 9 h4⟩
  · show (wr.alloc o).cell? _ = _
    rw [World.cell?_of_block (Below.heap_alloc wr _ g (by omega)), h.kb.cell (p := ⟨g, 0, none⟩) hg hgb]; exact h0
  · rw [cell_of_row _ bs q _ 9 (0, 0) h4]; exact st_get q h3 hq
theorem XR.next {w wr : World} {bs cap n : Nat} {S : List (List Int)} (h : XR w wr bs cap n S) (hb : bs < w.heap.size) (q : Nat) (b : List Int) (o : Obj) : XR w ((wr.alloc o).drew.setCell ⟨bs, q, none⟩ (strV b)) bs cap n (S.set q b) := by
  have hsz := h.kb.size
  obtain ⟨cur, h1, h2, h3⟩ := h.row
  have h4 : (wr.alloc o).drew.heap[bs]? = some (.cells cur 9 (0, 0)) := by
    show (wr.alloc o).heap[bs]? = _
    rw [Below.heap_alloc wr _ bs (by omega)]; exact h1
  refine ⟨(h.kb.trans ((KB.alloc _ _ _ _ hsz).drew)).trans ⟨rfl, rfl, rfl, by simp [World.setCell], fun k _ hne => heap_setCell_other _ _ _ _ hne⟩, _, heap_setCell_same _ bs q _ 9 (strV b) h4, by simpa using h2, st_set q b h3⟩

set_option maxHeartbeats 8000000 in
set_option maxRecDepth 100000 in
theorem down_x (B : Nat) (w : World) (g : Nat) (sv wv cv : Value) (D : Dk) (h : IsX B w g sv wv cv D) (ac : Option Addr) (m cc : Nat) (ch : List Int) (hch : RB w ac m ch (foot g sv wv)) :
    Calls Try.prog 25 #[.pointer (some ⟨g, 0, none⟩), .slice ac m cc] w fun e w' => e = .returned (.tuple #[]) ∧ IsX B w' g sv (.slice none 0 0) (.slice none 0 0) (fallD D ch) ∧ Step (foot g sv wv) (foot g sv (.slice none 0 0)) w w' := by
  obtain ⟨bs, cap, cur, rfl, hbB, hs, hcap, hmax, hsz, ht⟩ := h.open_
  obtain ⟨aw, cw, rfl, hwc⟩ := wa_cells h.wt
  obtain ⟨k0, k1, k2, k3, k4, k5, kf⟩ := h.xb.cells
  have hn := h.ok.n
  have hk6 : D.waits.length ≤ 10000 := by have := h.ok.r; omega
  have hm63 := hch.l.2
  have hgbs : g ≠ bs := fun e => (h.ne bs).1 rfl e.symm
  have hglt := h.lt g (.inl rfl)
  have hblt := h.lt bs (.inr (.inl rfl))
  have hbw : ∀ b, (Value.slice aw D.waits.length cw).ownBlock = some b → b ≠ bs := fun b hb e => by
    obtain ⟨_, c2, hc2⟩ := own_typed' h.wt b hb
    rw [e, hs] at hc2; cases hc2
  have H := Lib.hid h
  have HWC := Lib.hid hwc
  have HCH := Lib.hid hch
  have HBW := Lib.hid hbw
  have HS0 := Lib.hid (show XR w w bs cap D.stays.length D.stays from ⟨KB.refl _ _ _, cur, hs, hsz, by rw [Nat.mul_one] at ht; exact ht⟩)
  have HN := Lib.hid (And.intro hgbs (And.intro hglt (And.intro hblt (And.intro hbB (And.intro hcap hmax)))))
  have HK0 := Lib.hid k0
  clear h hwc hs hbB hcap hmax hsz ht hbw hgbs hglt hblt hch
  go_enter Try.func25, Try.ntmps25
  go_wp2_with fail
  clear k0 k1 k2 k3 k4 k5 kf
  go_loopw [12] (fun i wr => ∃ k : Nat, k ≤ D.waits.length ∧ i = .int .i64 k ∧ XR w wr bs cap D.stays.length ((upto (felem D.waits ch) k).foldl putS D.stays))
    (fun i _ => D.waits.length - (intOf i).toNat)
  case atStart => exact ⟨0, Nat.zero_le _, rfl, HS0.out⟩
  case round =>
    obtain ⟨k, hk, rfl, hxr⟩ := hrel
    have HX := Lib.hid hxr
    clear hxr
    by_cases hlt : k < D.waits.length
    · obtain ⟨bw, rfl, hown, hbwlt, hcell⟩ := HWC.out (by omega)
      have hbwne := HBW.out bw hown
      have hcs0 := hcell k hlt
      have hfe := felem_ok H.out.ok.w HCH.out.b k hlt
      have efe : felem D.waits ch k = ((D.waits.getD k (0, [])).1, (D.waits.getD k (0, [])).2, (kn ch k).toNat) := rfl
      obtain ⟨fl, fok⟩ := fold_ok (el := felem D.waits ch) (N := D.waits.length) H.out.ok.s (felem_ok H.out.ok.w HCH.out.b) k hk
      have efs := congrArg (List.foldl putS D.stays) (upto_succ (felem D.waits ch) k)
      rw [List.foldl_append] at efs
      clear hcell
      generalize D.waits.getD k (0, []) = p at *
      obtain ⟨p1, p2⟩ := p
      rw [efe] at hfe efs
      dsimp only [List.foldl_cons, List.foldl_nil] at hfe hcs0 efs
      obtain ⟨hcs0, hcs1⟩ := hcs0
      obtain ⟨hp1, ⟨hp2, hp3⟩, hp4⟩ := hfe
      have hw : ∀ p : Addr, p.block = bw → wr.cell? p = w.cell? p := fun p hp => HX.out.kb.cell (by rw [hp]; exact hbwlt) (by rw [hp]; exact hbwne)
      have hc0 : wr.cell? ⟨bw, k * 2, none⟩ = some (.int .i64 (p1 : Int)) := (hw _ rfl).trans hcs0
      have hc1 : wr.cell? ⟨bw, k * 2 + 1, none⟩ = some (.string (strOfNums p2)) := (hw _ rfl).trans hcs1
      have hwn := HX.out.kb.size
      have EF := Lib.hid efs
      have HFL := Lib.hid (And.intro fl fok)
      have HP := Lib.hid (And.intro hp1 (And.intro hp2 (And.intro hp3 hp4)))
      clear hcs0 hcs1 hw hown hbwlt hbwne efs efe fl fok hp1 hp2 hp3 hp4
      by_cases hkm : k < m
      · obtain ⟨ad2, rfl, hc1', hc2', hch⟩ := HCH.out.c (by omega)
        have hch' : ∀ o, (wr.alloc o).cell? (ad2.add k) = some (.int .u8 (ch.getD k 0)) := fun o => by
          have hb : (ad2.add k).block = ad2.block := by unfold Addr.add; split <;> rfl
          rw [World.cell?_of_block (Below.heap_alloc wr o _ (by rw [hb]; omega)), HX.out.kb.cell (by rw [hb]; exact hc1') (by rw [hb]; exact fun e => hc2' (.inr (.inl (by rw [e]; rfl))))]
          exact hch k hkm
        have hkc : k < ch.length := by rw [HCH.out.l.1]; exact hkm
        have hcv : 0 ≤ ch.getD k 0 ∧ ch.getD k 0 ≤ 255 := HCH.out.b _ (by rw [List.getD_eq_getElem?_getD, List.getElem?_eq_getElem hkc]; exact List.getElem_mem _)
        have hkn0 : kn ch k = min (ch.getD k 0) 64 := by unfold kn; rw [if_pos hkc]
        clear hch hkc hc1' hc2'
        generalize ch.getD k 0 = cv at *
        obtain ⟨c0, c1⟩ := hcv
        obtain ⟨cn, rfl⟩ : ∃ cn : Nat, cv = cn := ⟨cv.toNat, by omega⟩
        by_cases hc64 : (cn : Int) ≤ 64
        · have hkk : (kn ch k).toNat = cn := by rw [hkn0]; omega
          have hkk' := Lib.hid hkk
          clear hkn0 hkk
          go_wp2_with fail
          rename_i Kx hKx
          obtain ⟨n1, n2, n3, n4, n5, n6⟩ := HN.out
          obtain ⟨f1, f2⟩ := HFL.out
          obtain ⟨p5, p6, p7, p8⟩ := HP.out
          obtain ⟨r0, r1, r2⟩ := HX.out.reads n2 n1 HK0.out p1 (by rw [f1]; exact p5) (.cells #[.int .i64 (p1 : Int), .string (strOfNums p2)] 61) n3
          have hs64 := (f2 (((upto (felem D.waits ch) k).foldl putS D.stays).getD p1 []) (by rw [List.getD_eq_getElem?_getD, List.getElem?_eq_getElem (by rw [f1]; exact p5)]; exact List.getElem_mem _)).1
          refine down_region _ g bs D.stays.length cap wr.heap.size p1 cn _ (strOfNums p2) _ ?_ r0 ?_ ?_ r1 r2 p5 hn.2 (by rw [str_size]; omega) (by rw [str_size]; omega) (by rw [str_size]; omega) _ _ _ _ _ _ _ _ _ _ _ _ _ _ _ _ _ _ _ _ _ _ _ _ _ _ _ _ _ _ _ _ _ _ _ _ _ _ _ _ _ _ _ _ _ _ _ _ _ _ _ _ _ _ _ _ _ _ _ ?_
          · rintro c a w' ⟨_, h, _⟩; cases h
          · show (wr.alloc _).cell? _ = _
            rw [cell_of_row _ wr.heap.size 0 _ 61 (0, 0) (heap_alloc_new _ _)]; rfl
          · show (wr.alloc _).cell? _ = _
            rw [cell_of_row _ wr.heap.size 1 _ 61 (0, 0) (heap_alloc_new _ _)]; rfl
          intro x27 x28 x29 x30 x31 x32 x33 x34 x35 x36 x37 x38 x39 x40 x41 x42 x43 x44 x45 x46 x47 x48
          rw [str_cut]
          have HX2 := Lib.hid (HX.out.next n3 p1 (p2.take cn ++ (((upto (felem D.waits ch) k).foldl putS D.stays).getD p1 []).drop cn) (.cells #[.int .i64 (p1 : Int), .string (strOfNums p2)] 61))
          clear n1 n2 n3 n4 n5 n6 f1 f2 p5 p6 p7 p8 r0 r1 r2 hs64
          refine hKx _ _ ?_
          go_wp2_with fail
          go_roundw
          case rel =>
            refine ⟨k + 1, by omega, by simp, ?_⟩
            rw [EF.out, hkk'.out]
            exact HX2.out
          case measure => simp [intOf]; omega
        · have hkk : (kn ch k).toNat = 64 := by rw [hkn0]; omega
          have hkk' := Lib.hid hkk
          have hc65 : 64 < (cn : Int) := by omega
          clear hkn0 hkk hc64
          go_wp2_with fail
          rename_i Kx hKx
          obtain ⟨n1, n2, n3, n4, n5, n6⟩ := HN.out
          obtain ⟨f1, f2⟩ := HFL.out
          obtain ⟨p5, p6, p7, p8⟩ := HP.out
          obtain ⟨r0, r1, r2⟩ := HX.out.reads n2 n1 HK0.out p1 (by rw [f1]; exact p5) (.cells #[.int .i64 (p1 : Int), .string (strOfNums p2)] 61) n3
          have hs64 := (f2 (((upto (felem D.waits ch) k).foldl putS D.stays).getD p1 []) (by rw [List.getD_eq_getElem?_getD, List.getElem?_eq_getElem (by rw [f1]; exact p5)]; exact List.getElem_mem _)).1
          refine down_region _ g bs D.stays.length cap wr.heap.size p1 64 _ (strOfNums p2) _ ?_ r0 ?_ ?_ r1 r2 p5 hn.2 (by rw [str_size]; omega) (by rw [str_size]; omega) (by rw [str_size]; omega) _ _ _ _ _ _ _ _ _ _ _ _ _ _ _ _ _ _ _ _ _ _ _ _ _ _ _ _ _ _ _ _ _ _ _ _ _ _ _ _ _ _ _ _ _ _ _ _ _ _ _ _ _ _ _ _ _ _ _ ?_
          · rintro c a w' ⟨_, h, _⟩; cases h
          · show (wr.alloc _).cell? _ = _
            rw [cell_of_row _ wr.heap.size 0 _ 61 (0, 0) (heap_alloc_new _ _)]; rfl
          · show (wr.alloc _).cell? _ = _
            rw [cell_of_row _ wr.heap.size 1 _ 61 (0, 0) (heap_alloc_new _ _)]; rfl
          intro x27 x28 x29 x30 x31 x32 x33 x34 x35 x36 x37 x38 x39 x40 x41 x42 x43 x44 x45 x46 x47 x48
          rw [str_cut]
          have HX2 := Lib.hid (HX.out.next n3 p1 (p2.take 64 ++ (((upto (felem D.waits ch) k).foldl putS D.stays).getD p1 []).drop 64) (.cells #[.int .i64 (p1 : Int), .string (strOfNums p2)] 61))
          clear n1 n2 n3 n4 n5 n6 f1 f2 p5 p6 p7 p8 r0 r1 r2 hs64
          refine hKx _ _ ?_
          go_wp2_with fail
          go_roundw
          case rel =>
            refine ⟨k + 1, by omega, by simp, ?_⟩
            rw [EF.out, hkk'.out]
            exact HX2.out
          case measure => simp [intOf]; omega
      · have hkk : (kn ch k).toNat = 0 := by unfold kn; rw [if_neg (by rw [HCH.out.l.1]; omega)]; rfl
        have hkk' := Lib.hid hkk
        clear hkk
        go_wp2_with fail
        rename_i Kx hKx
        obtain ⟨n1, n2, n3, n4, n5, n6⟩ := HN.out
        obtain ⟨f1, f2⟩ := HFL.out
        obtain ⟨p5, p6, p7, p8⟩ := HP.out
        obtain ⟨r0, r1, r2⟩ := HX.out.reads n2 n1 HK0.out p1 (by rw [f1]; exact p5) (.cells #[.int .i64 (p1 : Int), .string (strOfNums p2)] 61) n3
        have hs64 := (f2 (((upto (felem D.waits ch) k).foldl putS D.stays).getD p1 []) (by rw [List.getD_eq_getElem?_getD, List.getElem?_eq_getElem (by rw [f1]; exact p5)]; exact List.getElem_mem _)).1
        refine down_region _ g bs D.stays.length cap wr.heap.size p1 0 _ (strOfNums p2) _ ?_ r0 ?_ ?_ r1 r2 p5 hn.2 (by rw [str_size]; omega) (by rw [str_size]; omega) (by rw [str_size]; omega) _ _ _ _ _ _ _ _ _ _ _ _ _ _ _ _ _ _ _ _ _ _ _ _ _ _ _ _ _ _ _ _ _ _ _ _ _ _ _ _ _ _ _ _ _ _ _ _ _ _ _ _ _ _ _ _ _ _ _ ?_
        · rintro c a w' ⟨_, h, _⟩; cases h
        · show (wr.alloc _).cell? _ = _
          rw [cell_of_row _ wr.heap.size 0 _ 61 (0, 0) (heap_alloc_new _ _)]; rfl
        · show (wr.alloc _).cell? _ = _
          rw [cell_of_row _ wr.heap.size 1 _ 61 (0, 0) (heap_alloc_new _ _)]; rfl
        intro x27 x28 x29 x30 x31 x32 x33 x34 x35 x36 x37 x38 x39 x40 x41 x42 x43 x44 x45 x46 x47 x48
        rw [str_cut]
        have HX2 := Lib.hid (HX.out.next n3 p1 (p2.take 0 ++ (((upto (felem D.waits ch) k).foldl putS D.stays).getD p1 []).drop 0) (.cells #[.int .i64 (p1 : Int), .string (strOfNums p2)] 61))
        clear n1 n2 n3 n4 n5 n6 f1 f2 p5 p6 p7 p8 r0 r1 r2 hs64
        refine hKx _ _ ?_
        go_wp2_with fail
        go_roundw
        case rel =>
          refine ⟨k + 1, by omega, by simp, ?_⟩
          rw [EF.out, hkk'.out]
          exact HX2.out
        case measure => simp [intOf]; omega
    · obtain rfl : k = D.waits.length := by omega
      obtain ⟨fl, fok⟩ := fold_ok (el := felem D.waits ch) (N := D.waits.length) H.out.ok.s (felem_ok H.out.ok.w HCH.out.b) _ hk
      have hxb : XB wr g (.slice (some ⟨bs, 0, none⟩) D.stays.length cap) (.slice aw D.waits.length cw) cv D.room D.down D.steps := by
        unfold XB; rw [HX.out.kb.block g HN.out.2.1 HN.out.1]; exact H.out.xb
      obtain ⟨k0, k1, k2, k3, k4, k5, kf⟩ := hxb.cells
      have HXB := Lib.hid hxb
      have HFL := Lib.hid (And.intro fl fok)
      clear hxb fl fok
      go_wp2_with fail
      go_end0
      obtain ⟨e1, e2, e3⟩ := x_end HXB.out
      obtain ⟨n1, n2, n3, n4, n5, n6⟩ := HN.out
      refine ⟨rfl, ⟨⟨?_, HFL.out.2, by simp [fallD], ?_, ?_, byteL_nil⟩, H.out.base, e1, ?_, World.ownsRow_nil _ _ _ _, ⟨none, 0, rfl, by simp [fallD], .inl rfl⟩⟩, ?_⟩
      · simp only [fallD, fallS, HFL.out.1]; exact H.out.ok.n
      · have := H.out.ok.r; simp only [fallD]; simp; omega
      · simp [fallD]
      · have := HX.out.own (B := B) n4 HFL.out.1 n5 n6 (e2 bs (Ne.symm n1))
        exact this
      · refine ⟨HX.out.kb.os, HX.out.kb.tape, HX.out.kb.output, by rw [e3]; exact HX.out.kb.size, fun j hj hF => ?_, fun j hj => ?_⟩
        · rw [e2 j (fun e => hF (.inl e)), HX.out.kb.block j hj (fun e => hF (.inr (.inl (by rw [e]; rfl))))]
        · rcases hj with h1 | h1 | h1
          · exact .inl (.inl h1)
          · exact .inl (.inr (.inl h1))
          · simp [Value.ownBlock] at h1
end Go.Proofs.Ytbimbgefclohlaa
