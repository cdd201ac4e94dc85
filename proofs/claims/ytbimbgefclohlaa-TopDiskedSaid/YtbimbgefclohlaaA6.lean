/- One part of the proof that postmarktop.TopDisked returns true for every input and that its input reads behind the call as it read before (theorem topDisked_holds in YtbimbgefclohlaaC31). The laws of this text have their conditions in their own statements; the theorem that is claimed has none. -/
import Derived.Test.YtbimbgefclohlaaA5
import Derived.Scope
set_option linter.unusedVariables false
set_option linter.unusedSimpArgs false
namespace Go.Proofs.Ytbimbgefclohlaa
open Go.RowKit Go.Shelf
attribute [local go_sem] Oper.semAt_some

/-- what falls reads -/
structure FallsReads (w : World) (bs n : Nat) (aw : Option Addr) (mw : Nat) (waits : List (Nat × List Int)) (ac : Option Addr) (m : Nat) (choice : List Int) : Prop where
  wl : waits.length = mw ∧ mw ≤ 1000000 ∧ ∀ p ∈ waits, p.1 < n ∧ p.2.length = 64
  wc : 0 < mw → ∃ ad : Addr, aw = some ad ∧ ad.block < w.heap.size ∧ ad.block ≠ bs ∧ ∀ k, k < mw → ∀ j u, (wrC (waits.getD k (0, [])))[j]? = some u → w.cell? ((ad.add (k * 65)).add j) = some u
  cl : choice.length = m ∧ m ≤ 9223372036854775807 ∧ ∀ c ∈ choice, 0 ≤ c ∧ c ≤ 255
  cc : 0 < m → ∃ ad : Addr, ac = some ad ∧ ad.block < w.heap.size ∧ ad.block ≠ bs ∧ ∀ k, k < m → w.cell? (ad.add k) = some (.int .u8 (choice.getD k 0))

def felem (waits : List (Nat × List Int)) (choice : List Int) (j : Nat) : Nat × List Int × Nat := ((waits.getD j (0, [])).1, (waits.getD j (0, [])).2, (kn choice j).toNat)
def fallC (cur : List Value) (waits : List (Nat × List Int)) (choice : List Int) : List Value := (upto (felem waits choice) waits.length).foldl stepC cur

abbrev Fe (n : Nat) := { x : Nat × List Int × Nat // x.1 < n ∧ x.2.1.length = 64 ∧ x.2.2 ≤ 64 }
def fenc {n : Nat} (x : Fe n) : (Nat × List Int) × Int := ((x.1.1, x.1.2.1), (x.1.2.2 : Int))
def fel {n : Nat} (h0 : 0 < n) (waits : List (Nat × List Int)) (choice : List Int) (j : Nat) : Fe n :=
  if h : (felem waits choice j).1 < n ∧ (felem waits choice j).2.1.length = 64 ∧ (felem waits choice j).2.2 ≤ 64 then ⟨felem waits choice j, h⟩ else ⟨(0, List.replicate 64 0, 0), h0, by simp, by simp⟩

theorem kn_range (choice : List Int) (h : ∀ c ∈ choice, 0 ≤ c ∧ c ≤ 255) (j : Nat) : 0 ≤ kn choice j ∧ kn choice j ≤ 64 := by
  unfold kn
  split
  · rename_i hj
    have := h (choice.getD j 0) (by rw [List.getD_eq_getElem?_getD, List.getElem?_eq_getElem hj]; exact List.getElem_mem _)
    omega
  · omega
theorem fel_ok {n : Nat} (h0 : 0 < n) (waits : List (Nat × List Int)) (choice : List Int) (hw : ∀ p ∈ waits, p.1 < n ∧ p.2.length = 64) (hc : ∀ c ∈ choice, 0 ≤ c ∧ c ≤ 255) (j : Nat) (hj : j < waits.length) :
    (fel h0 waits choice j).1 = felem waits choice j ∧ fenc (fel h0 waits choice j) = kelem waits choice j := by
  have hk := kn_range choice hc j
  have hp := hw (waits.getD j (0, [])) (by rw [List.getD_eq_getElem?_getD, List.getElem?_eq_getElem hj]; exact List.getElem_mem _)
  have h : (felem waits choice j).1 < n ∧ (felem waits choice j).2.1.length = 64 ∧ (felem waits choice j).2.2 ≤ 64 := ⟨hp.1, hp.2, by simp only [felem]; omega⟩
  unfold fel
  rw [dif_pos h]
  refine ⟨rfl, ?_⟩
  simp only [fenc, felem, kelem]
  congr 1
  omega
theorem fold_val {n : Nat} (h0 : 0 < n) (waits : List (Nat × List Int)) (choice : List Int) (hw : ∀ p ∈ waits, p.1 < n ∧ p.2.length = 64) (hc : ∀ c ∈ choice, 0 ≤ c ∧ c ≤ 255) (cur : List Value) :
    (upto (fel h0 waits choice) waits.length).foldl (fun c x => stepC c x.1) cur = fallC cur waits choice := by
  unfold fallC
  have : ∀ k, k ≤ waits.length → (upto (fel h0 waits choice) k).foldl (fun c x => stepC c x.1) cur = (upto (felem waits choice) k).foldl stepC cur := by
    intro k
    induction k with
    | zero => intro _; rfl
    | succ k ih => intro hk; rw [upto_succ, upto_succ, List.foldl_append, List.foldl_append, ih (by omega)]; simp only [List.foldl_cons, List.foldl_nil]; rw [(fel_ok h0 waits choice hw hc k (by omega)).1]
  exact this _ (Nat.le_refl _)
theorem fold_length {n : Nat} (l : List (Fe n)) (cur : List Value) (h : n * 64 ≤ cur.length) : (l.foldl (fun c x => stepC c x.1) cur).length = cur.length := by
  induction l generalizing cur with
  | nil => rfl
  | cons x l ih =>
    have h1 := stepC_length cur x.1 x.2.2.1 x.2.2.2 (by have := x.2.1; have : (x.1.1 + 1) * 64 ≤ n * 64 := Nat.mul_le_mul_right _ this; omega)
    rw [List.foldl_cons, ih _ (by rw [h1]; exact h), h1]

theorem add_block (a : Addr) (j : Nat) : (a.add j).block = a.block := by unfold Addr.add; split <;> rfl
theorem KB.grown {n0 bs : Nat} {w0 w w' : World} (h : KB n0 bs w0 w) {row : Option Nat} (hg : w.grownBy w' row) (hr : ∀ r, row = some r → n0 ≤ r) (hn : n0 ≤ w0.heap.size := by exact Nat.le_refl _) : KB n0 bs w0 w' :=
  h.trans ⟨hg.os, hg.tape, hg.output, hg.size, fun k hk _ => hg.block k (by have := h.size; omega) (fun e => by have := hr k e.symm; omega)⟩
theorem kb_put (bs n0 : Nat) {W : World} {l : Nat} {o' : Obj} (hl : n0 ≤ l) : KB n0 bs W (W.putObj l o') := by
  have hg := grownBy_putObj' W l o'
  exact ⟨hg.os, hg.tape, hg.output, hg.size, fun k hk _ => by
    by_cases hlt : k < W.heap.size
    · exact hg.block k hlt (fun e => by cases e; omega)
    · have hsz : (W.putObj l o').heap.size = W.heap.size := by simp [World.putObj]
      rw [Array.getElem?_eq_none (by omega), Array.getElem?_eq_none (by omega)]⟩

theorem stepC_zero (cur : List Value) (a : Nat) (b : List Int) : stepC cur (a, b, 0) = cur := by simp [stepC]
theorem fold2 (t : Array Value) (p1 p2 : Nat) (v1 v2 : Value) : Array.foldl (fun (t : Array Value) (x : Nat × Value) => match x with | (p, v) => t.setIfInBounds p v) t ((#[p1, p2] : Array Nat).zip #[v1, v2]) = (t.setIfInBounds p1 v1).setIfInBounds p2 v2 := by simp
structure FallsPost (w w' : World) (g bs n cs : Nat) (room : Int) (cur : List Value) : Prop where
  os : w'.os = w.os
  tape : w'.tape = w.tape
  output : w'.output = w.output
  size : w.heap.size ≤ w'.heap.size
  block : ∀ k, k < w.heap.size → k ≠ bs → k ≠ g → w'.heap[k]? = w.heap[k]?
  stays : w'.heap[bs]? = some (.cells cur.toArray 51 (0, 0))
  own : DB w' g (.slice (some ⟨bs, 0, none⟩) n cs) (.slice none 0 0) (.slice none 0 0) room true 0

theorem falls_end {W : World} {g : Nat} {sv wv cv : Value} {room : Int} {down : Bool} {steps : Int} (h : DB W g sv wv cv room down steps) :
    ((((W.setCell ⟨g, 1, none⟩ (.slice none 0 0)).setCell ⟨g, 3, none⟩ (.bool true)).setCell ⟨g, 4, none⟩ (.int .i64 0)).setCell ⟨g, 5, none⟩ (.slice none 0 0)).heap[g]? = some (.cells #[sv, .slice none 0 0, .int .i64 room, .bool true, .int .i64 0, .slice none 0 0] 49 (0, 0)) ∧
    (∀ k, k ≠ g → ((((W.setCell ⟨g, 1, none⟩ (.slice none 0 0)).setCell ⟨g, 3, none⟩ (.bool true)).setCell ⟨g, 4, none⟩ (.int .i64 0)).setCell ⟨g, 5, none⟩ (.slice none 0 0)).heap[k]? = W.heap[k]?) ∧
    ((((W.setCell ⟨g, 1, none⟩ (.slice none 0 0)).setCell ⟨g, 3, none⟩ (.bool true)).setCell ⟨g, 4, none⟩ (.int .i64 0)).setCell ⟨g, 5, none⟩ (.slice none 0 0)).heap.size = W.heap.size ∧
    ((((W.setCell ⟨g, 1, none⟩ (.slice none 0 0)).setCell ⟨g, 3, none⟩ (.bool true)).setCell ⟨g, 4, none⟩ (.int .i64 0)).setCell ⟨g, 5, none⟩ (.slice none 0 0)).os = W.os ∧
    ((((W.setCell ⟨g, 1, none⟩ (.slice none 0 0)).setCell ⟨g, 3, none⟩ (.bool true)).setCell ⟨g, 4, none⟩ (.int .i64 0)).setCell ⟨g, 5, none⟩ (.slice none 0 0)).tape = W.tape ∧
    ((((W.setCell ⟨g, 1, none⟩ (.slice none 0 0)).setCell ⟨g, 3, none⟩ (.bool true)).setCell ⟨g, 4, none⟩ (.int .i64 0)).setCell ⟨g, 5, none⟩ (.slice none 0 0)).output = W.output := by
  unfold DB at h
  have h1 := heap_setCell_same W g 1 _ 49 (.slice none 0 0) h
  have h2 := heap_setCell_same _ g 3 _ 49 (.bool true) h1
  have h3 := heap_setCell_same _ g 4 _ 49 (.int .i64 0) h2
  have h4 := heap_setCell_same _ g 5 _ 49 (.slice none 0 0) h3
  refine ⟨h4, fun k hk => ?_, by simp [World.setCell], rfl, rfl, rfl⟩
  rw [heap_setCell_other _ _ _ _ hk, heap_setCell_other _ _ _ _ hk, heap_setCell_other _ _ _ _ hk, heap_setCell_other _ _ _ _ hk]

set_option maxRecDepth 100000 in
set_option maxHeartbeats 2000000 in
theorem falls_any (w : World) (g bs n cs : Nat) (aw : Option Addr) (mw cw : Nat) (waits : List (Nat × List Int)) (ac : Option Addr) (m cc : Nat) (choice : List Int) (cv : Value) (room : Int) (down : Bool) (steps : Int) (cur : List Value)
    (hg : DB w g (.slice (some ⟨bs, 0, none⟩) n cs) (.slice aw mw cw) cv room down steps) (hs : w.heap[bs]? = some (.cells cur.toArray 51 (0, 0))) (hn : 0 < n ∧ n ≤ 64) (hfit : n * 64 ≤ cur.length)
    (hR : FallsReads w bs n aw mw waits ac m choice) :
    Calls Try.prog 28 #[.pointer (some ⟨g, 0, none⟩), .slice ac m cc] w fun e w' => e = .returned (.tuple #[]) ∧ FallsPost w w' g bs n cs room (fallC cur waits choice) := by
  have hgbs : g ≠ bs := by
    rintro rfl
    unfold DB at hg
    rw [hg] at hs
    cases hs
  have hglt : g < w.heap.size := (Array.getElem?_eq_some_iff.1 hg).1
  have hslt : bs < w.heap.size := (Array.getElem?_eq_some_iff.1 hs).1
  refine (callsIn_wide (n := 6)).1 ?_
  refine callsIn_of_wp_marks Try.func28 rfl trivial ?_ rfl
  simp only [Try.ntmps28, List.size_toArray, List.length_cons, List.length_nil, Nat.reduceAdd, Nat.reduceSub, Array.replicate_succ, Array.replicate_zero, List.push_toArray, List.append_toArray, List.nil_append, List.cons_append]
  have Hg := Lib.hid hg
  have Hs := Lib.hid hs
  have HR := Lib.hid hR
  clear hg hs hR
  gi_wp2_with fail
  refine wpIn_wide.2 (wp_scope_straight ((wpIn_wide (n := 6)).1 ?_))
  refine wpIn_seq ?_
  refine wpIn_label ?_
  simp only [Exit.then]
  gi_wp2_with fail
  refine ⟨trivial, ?_⟩
  refine (callsIn_wide.2 (kept_any _ _ _ _ _)).mono ?_
  rintro e w' ⟨rfl, rfl⟩
  gi_wp2_with fail
  obtain ⟨W0, hW0⟩ : ∃ W0, ((w.alloc (.cells #[.pointer (some ⟨g, 0, none⟩)] 28)).alloc (.cells #[.pointer (some ⟨g, 0, none⟩)] 28)).alloc (.cells #[.slice ac m cc] 25) = W0 := ⟨_, rfl⟩
  have hsz : W0.heap.size = w.heap.size + 3 := by rw [← hW0]; simp
  have hold : ∀ k, k < w.heap.size → W0.heap[k]? = w.heap[k]? := fun k hk => by
    rw [← hW0, Below.heap_alloc _ _ _ (by simp; omega), Below.heap_alloc _ _ _ (by simp; omega), Below.heap_alloc _ _ _ hk]
  have hb0 : W0.cell? ⟨w.heap.size, 0, none⟩ = some (.pointer (some ⟨g, 0, none⟩)) := by
    rw [cell_of_row W0 _ _ #[.pointer (some ⟨g, 0, none⟩)] 28 (0, 0) (by rw [← hW0, Below.heap_alloc _ _ _ (by simp; omega), Below.heap_alloc _ _ _ (by simp), heap_alloc_new])]; rfl
  have hb1 : W0.cell? ⟨w.heap.size + 1, 0, none⟩ = some (.pointer (some ⟨g, 0, none⟩)) := by
    rw [cell_of_row W0 _ _ #[.pointer (some ⟨g, 0, none⟩)] 28 (0, 0) (by rw [← hW0, Below.heap_alloc _ _ _ (by simp)]; simpa using heap_alloc_new (w.alloc (.cells #[.pointer (some ⟨g, 0, none⟩)] 28)) _)]; rfl
  have hb2 : W0.cell? ⟨w.heap.size + 1 + 1, 0, none⟩ = some (.slice ac m cc) := by
    rw [cell_of_row W0 _ _ #[.slice ac m cc] 25 (0, 0) (by rw [← hW0]; simpa using heap_alloc_new ((w.alloc (.cells #[.pointer (some ⟨g, 0, none⟩)] 28)).alloc (.cells #[.pointer (some ⟨g, 0, none⟩)] 28)) _)]; rfl
  have hos : W0.os = w.os ∧ W0.tape = w.tape ∧ W0.output = w.output := by rw [← hW0]; exact ⟨rfl, rfl, rfl⟩
  rw [hW0]
  clear hW0
  have hel := fun j (hj : j < mw) => (fel_ok hn.1 waits choice HR.out.wl.2.2 HR.out.cl.2.2 j (by rw [HR.out.wl.1]; exact hj)).2
  have Hel := Lib.hid hel
  clear hel
  have hcellW0 : ∀ p : Addr, p.block < w.heap.size → W0.cell? p = w.cell? p := fun p hp => World.cell?_of_block (hold p.block hp)
  have hKR : KeptReads W0 W0.heap.size bs (w.heap.size + 1) (w.heap.size + 1 + 1) g aw mw cw waits ac m cc choice := {
    b1 := ⟨by omega, by omega, hb1⟩
    b2 := ⟨by omega, by omega, hb2⟩
    gw := ⟨by omega, hgbs, (hcellW0 ⟨g, 1, none⟩ hglt).trans Hg.out.cells.2.1⟩
    wl := ⟨HR.out.wl.1, HR.out.wl.2.1, fun p hp => (HR.out.wl.2.2 p hp).2⟩
    wc := fun hp => by
      obtain ⟨ad, e, h1, h2, hc⟩ := HR.out.wc hp
      refine ⟨ad, e, by omega, h2, fun k hk j u hu => ?_⟩
      rw [hcellW0 _ (by rw [add_block, add_block]; exact h1)]
      exact hc k hk j u hu
    cl := HR.out.cl
    cc := fun hp => by
      obtain ⟨ad, e, h1, h2, hc⟩ := HR.out.cc hp
      refine ⟨ad, e, by omega, h2, fun k hk => ?_⟩
      rw [hcellW0 _ (by rw [add_block]; exact h1)]
      exact hc k hk }
  have HKR := Lib.hid hKR
  clear hKR
  refine wpIn_rangeFunc_ownH rfl (by omega) (gf := 31) (lb := #[.pointer (some ⟨w.heap.size + 1, 0, none⟩), .pointer (some ⟨w.heap.size + 1 + 1, 0, none⟩)]) rfl trivial (enters_of Try.func31 (by kernel_rfl) rfl)
    (kept_stops fenc (fel hn.1 waits choice) 5 W0.heap.size bs (w.heap.size + 1) (w.heap.size + 1 + 1) g aw mw cw waits ac m cc choice Hel.out W0 (Nat.le_refl _) rfl HKR.out) KB.trans (fun W l o o' hl _ _ _ => kb_put bs W0.heap.size hl) (Below.refl _ _) (fun _ => rfl)
    (fun pre W => KB W0.heap.size bs W0 W ∧ W.heap[bs]? = some (.cells (pre.foldl (fun c x => stepC c x.1) cur).toArray 51 (0, 0)))
    (fun _ _ _ => False)
    (fun s A B row hs hg hr => ⟨hs.1.grown hg (fun r e => (hr r e).1), by
      rw [hg.block bs (by have := hs.1.size; omega) (fun e => by have := (hr bs e.symm).1; omega)]; exact hs.2⟩)
    (fun _ _ _ _ _ hs _ _ => hs)
    ⟨KB.refl _ _ _, by rw [hold bs hslt]; exact Hs.out⟩
    (fun x a' W => ∃ Bx, W0.heap.size ≤ Bx ∧ W.heap[Bx]? = some (.cells (wrC (fenc x).1).toArray 53 (0, 0)) ∧ a' = { tmps := #[.pointer (some ⟨g, 0, none⟩), .slice ac m cc, .pointer (some ⟨w.heap.size, 0, none⟩), undef, .pointer (some ⟨Bx, 0, none⟩), .int .i64 (x.1.2.2 : Int), .pointer (some ⟨g, 0, none⟩), .slice ac m cc, .func (.func 31) #[] #[.pointer (some ⟨w.heap.size + 1, 0, none⟩), .pointer (some ⟨w.heap.size + 1 + 1, 0, none⟩)], .agg (wrC (fenc x).1).toArray, .int .i64 (x.1.2.2 : Int), undef, undef, undef, undef, undef, undef, undef, undef, undef, undef, undef, undef, undef, undef, undef, undef, undef, undef, undef, undef, undef, undef, undef, undef, undef], defers := [] })
    (fun x a' _ A B row hs hg hr => by
      obtain ⟨Bx, h1, h2, h3⟩ := hs
      refine ⟨Bx, h1, ?_, h3⟩
      rw [hg.block Bx (Array.getElem?_eq_some_iff.1 h2).1 (fun e => by obtain ⟨_, o, ho, hc⟩ := hr Bx e.symm; rw [h2] at ho; cases ho; cases hc)]
      exact h2) ?assign ?body ?done ?stop
  case assign =>
    rintro l pre x W K ⟨hkb, hcur⟩ hK
    have Hl65 := Lib.hid (wrC_length (fenc x).1 x.2.2.1)
    have ek : kencs (fenc x) = #[.agg (wrC (fenc x).1).toArray, .int .i64 (x.1.2.2 : Int)] := rfl
    rw [ek, fold2]
    clear ek
    gi_wp2_with (first | (refine wpListIn_alloc53 (.inr ⟨l, rfl⟩) rfl rfl ?_; intro c hc) | (go_loud (refine wpListIn_store_agg (.inr ⟨l, rfl⟩) rfl 53 (.tmp 4) (.tmp 9) rfl W.heap.size 0 rfl (wrC (fenc x).1) rfl c 53 (heap_alloc_new _ _) (by rw [Hl65.out]; omega) (wrC_one _) (by rw [i53, Hl65.out]) ?_; rw [store_whole c _ (by rw [Hl65.out, hc]), alloc_setRow])))
    exact hK _ _ ((KeepsOthers.alloc _ _).from _) (KB.alloc _ _ _ _ (by have := hkb.size; omega)) ⟨hkb.trans (KB.alloc _ _ _ _ (by have := hkb.size; omega)), by rw [Below.heap_alloc _ _ _ (by have := hkb.size; omega)]; exact hcur⟩ ⟨W.heap.size, hkb.size, heap_alloc_new _ _, rfl⟩
  case body =>
    rintro l pre x a' W hl ⟨r, hr⟩ ⟨hkb, hcur⟩ ⟨Bx, hBx, hcell, rfl⟩ hlt
    obtain ⟨⟨q1, q2, q3⟩, hq1, hq2, hq3⟩ := x
    dsimp only at hq1 hq2 hq3
    have hlen := fold_length pre cur hfit
    have hxs : bs < W0.heap.size := by omega
    have hbW : bs < W.heap.size := (Array.getElem?_eq_some_iff.1 hcur).1
    by_cases hz : q3 = 0
    · subst hz
      gi_wp2
      exact ⟨KeepsFrom.refl _ _, KB.refl _ _ _, hkb, by rw [List.foldl_append]; simp only [List.foldl_cons, List.foldl_nil, stepC_zero]; exact hcur⟩
    · have hz' : ((q3 : Int) == 0) = false := by simp; omega
      have hc2 : W.cell? ⟨Bx, 0, none⟩ = some (.int .i64 (q1 : Int)) := by rw [cell_of_row W Bx 0 _ 53 (0, 0) hcell]; rfl
      gi_wp2_with fail
      have hlt3 : Bx < W.heap.size := (Array.getElem?_eq_some_iff.1 hcell).1
      have hgW : W.heap[g]? = w.heap[g]? := (hkb.block g (by omega) hgbs).trans (hold g hglt)
      refine falls_copy l _ _ ?_ ?_ w.heap.size g bs n cs Bx q1 q3 q2 _ W _ _ _ _ _ _ _ _ _ _ _ _ _ _ _ _ _ _ _ _ _ _ _ _ _ _ _ _ _ _ _ _ _
        ((hkb.cell (p := ⟨w.heap.size, 0, none⟩) (by show w.heap.size < _; omega) (by show w.heap.size ≠ _; omega)).trans hb0) (by rw [World.cell?_of_block hgW]; exact Hg.out.cells.1) hc2 hq1 hn.2 hq2 hq3 (by rw [hlen]; exact hfit) hcur ?_ ?_
      · rintro ⟨a, w, h⟩; exact h
      · intro c a w h; exact h
      · intro j v hv
        have hadd : (⟨Bx, 1, none⟩ : Addr).add j = ⟨Bx, 1 + j, none⟩ := by unfold Addr.add; split <;> simp_all
        rw [hadd]
        show W.cell? _ = _
        rw [cell_of_row W Bx _ _ 53 (0, 0) hcell]
        rw [List.getElem?_take] at hv
        split at hv
        · simp only [fenc, wrC, List.getElem?_toArray]
          rw [Nat.add_comm, List.getElem?_cons_succ]
          exact hv
        · cases hv
      · intro a'
        simp only [Exit.inBlock, Exit.then]
        refine ⟨⟨by simp [World.setRow], fun k o hk ho hc => ?_⟩, ?_, ?_⟩
        · rw [setRow_other _ _ _ _ (by rintro rfl; omega)]; exact ho
        · exact ⟨rfl, rfl, rfl, by simp [World.setRow], fun k hk hne => by rw [setRow_other _ _ _ _ hne]; rfl⟩
        · refine ⟨hkb.trans ⟨rfl, rfl, rfl, by simp [World.setRow], fun k hk hne => by rw [setRow_other _ _ _ _ hne]; rfl⟩, ?_⟩
          rw [setRow_heap W.drew _ _ _ 51 (0, 0) hcur]
          rw [List.foldl_append]
          simp only [List.foldl_cons, List.foldl_nil, stepC, List.length_take, sec_length, hq2, Nat.min_eq_left hq3]
  case done =>
    rintro D ys W hD rfl ⟨hkb, hcur⟩ hK
    have hgW : W.heap[g]? = w.heap[g]? := (hkb.block g (by omega) hgbs).trans (hold g hglt)
    have hb0W : W.cell? ⟨w.heap.size, 0, none⟩ = some (.pointer (some ⟨g, 0, none⟩)) := (hkb.cell (p := ⟨w.heap.size, 0, none⟩) (by show w.heap.size < _; omega) (by show w.heap.size ≠ _; omega)).trans hb0
    have hDB : DB W g (.slice (some ⟨bs, 0, none⟩) n cs) (.slice aw mw cw) cv room down steps := by unfold DB; rw [hgW]; exact Hg.out
    obtain ⟨h0, h1, h2, h3, h4, h5, hf⟩ := hDB.cells
    have hbg : w.heap.size ≠ g := by omega
    have hbg' : g ≠ w.heap.size := by omega
    gi_wp2_with fail
    refine wpIn_wide.2 ?_
    go_region
    have hE := falls_end hDB
    obtain ⟨We, hWe⟩ : ∃ We, (((W.setCell ⟨g, 1, none⟩ (.slice none 0 0)).setCell ⟨g, 3, none⟩ (.bool true)).setCell ⟨g, 4, none⟩ (.int .i64 0)).setCell ⟨g, 5, none⟩ (.slice none 0 0) = We := ⟨_, rfl⟩
    rw [hWe] at hE ⊢
    clear hWe
    have hgD : D ≠ g := by omega
    have hKe : We.drew.heap[D]? = some (.deferred (some [])) := (hE.2.1 D hgD).trans hK
    refine ⟨by simp, .inl ⟨_, _, rfl, run_takeDeferred hKe, ?_⟩⟩
    have hput := grownBy_putObj' We.drew D (.deferred none)
    have hsame : ∀ k, k < w.heap.size → k ≠ D → (We.drew.putObj D (.deferred none)).heap[k]? = We.heap[k]? := fun k hk hne => hput.block k (by rw [show We.drew.heap.size = We.heap.size from rfl, hE.2.2.1]; have := hkb.size; omega) (fun e => by cases e; exact hne rfl)
    refine ⟨_, results_none rfl _ _ _, rfl, ?_⟩
    exact {
      os := by rw [hput.os]; exact (hE.2.2.2.1.trans hkb.os).trans hos.1
      tape := by rw [hput.tape]; exact (hE.2.2.2.2.1.trans hkb.tape).trans hos.2.1
      output := by rw [hput.output]; exact (hE.2.2.2.2.2.trans hkb.output).trans hos.2.2
      size := by have h1 := hput.size; rw [show We.drew.heap.size = We.heap.size from rfl, hE.2.2.1] at h1; have := hkb.size; omega
      block := fun k hk h1 h2 => by rw [hsame k hk (by omega), hE.2.1 k h2, hkb.block k (by omega) h1, hold k hk]
      stays := by
        rw [hsame bs hslt (by omega), hE.2.1 bs (Ne.symm hgbs), hcur]
        rw [← HR.out.wl.1, fold_val hn.1 waits choice HR.out.wl.2.2 HR.out.cl.2.2]
      own := by
        unfold DB
        rw [hsame g hglt (Ne.symm hgD)]
        exact hE.1 }
  case stop =>
    rintro D c pre W _ _ h _
    exact h.elim
end Go.Proofs.Ytbimbgefclohlaa
