/- One part of the proof that postmarktop.TopDisked returns true for every input and that its input reads behind the call as it read before (theorem topDisked_holds in YtbimbgefclohlaaC31). The laws of this text have their conditions in their own statements; the theorem that is claimed has none. -/
import Derived.Test.YtbimbgefclohlaaC24
set_option linter.unusedVariables false
set_option linter.unusedSimpArgs false
namespace Go.Proofs.Ytbimbgefclohlaa
open Go.RowKit Go.Proofs.YtbimbgefclohlaaW.PrintWords

structure A17 where
  kind : Int
  by_ : Int
  at_ : Int
  b : List Int
/-- an act at its place in the argument's row -/
def ActAt (w : World) (p : Addr) (x : A17) : Prop := ∃ ab mb cb, (∀ j u, ([.int .u8 x.kind, .int .u8 x.by_, .int .i64 x.at_, .slice ab mb cb] : List Value)[j]? = some u → w.cell? (p.add j) = some u) ∧
  RB w ab mb x.b (fun _ => False) ∧ (0 ≤ x.kind ∧ x.kind ≤ 255) ∧ (0 ≤ x.by_ ∧ x.by_ ≤ 255) ∧ x.at_ ≤ 9223372036854775807
def ActsIn (w : World) (A : Option Addr) (m c : Nat) (l : List A17) : Prop :=
  l.length = m ∧ m ≤ c ∧ m ≤ 9223372036854775807 ∧ (0 < m → ∃ ad, A = some ad ∧ ad.block < w.heap.size ∧ ∀ k, k < m → ActAt w (ad.add (k * 4)) (l.getD k ⟨0, 0, 0, []⟩))
theorem RB.low {w w' : World} {ab : Option Addr} {mb : Nat} {b : List Int} {F : Nat → Prop} (h : RB w ab mb b (fun _ => False)) (hb : Below w.heap.size w w') (hF : ∀ k, F k → w.heap.size ≤ k) : RB w' ab mb b F :=
  ⟨h.l, h.b, fun hp => by
    obtain ⟨ad, e, h1, _, h3⟩ := h.c hp
    exact ⟨ad, e, Nat.lt_of_lt_of_le h1 hb.size, fun hk => by have := hF _ hk; omega, fun k hk => by rw [hb.cell (by rw [add_block]; exact h1)]; exact h3 k hk⟩⟩
theorem cut_acts (W : World) (ad : Addr) (m c k : Nat) (hk : k < m) (hc : m ≤ c) : (Instr.slice 22 (.slice (some ad) m c) (some (.int .i64 (k : Int))) none none).run Try.prog W = .ok (.slice (some (ad.add (k * 4))) (m - k) (c - k)) W := by
  have hi : (Try.prog.info? 27).map (·.size) = some 4 := by kernel_rfl
  have hel : Try.prog.elem 22 = 27 := by kernel_rfl
  have hu : Try.prog.underlying 22 = some (.slice (Try.prog.elem 22)) := by kernel_rfl
  cases hq : Try.prog.info? 27 with
  | none => simp [hq] at hi
  | some i =>
    have hs : i.size = 4 := by simpa [hq] using hi
    rw [run_slice_l W 22 (some ad) m c hu .i64 k (by omega) (by omega), hel]
    have hne : ¬ c = k := by omega
    simp [sizeOf, typeInfo, hq, hs, sliced, Result.andThen, hne]
theorem IsX.less {B B' : Nat} {w : World} {g : Nat} {sv wv cv : Value} {D : Dk} (h : IsX B w g sv wv cv D) (hB : B' ≤ B) : IsX B' w g sv wv cv D :=
  ⟨h.ok, Nat.le_trans hB h.base, h.xb, own_mono h.s hB, own_mono h.wt hB, h.c⟩
theorem Two.base {B : Nat} {w : World} {gd gx : Nat} {sd wd cd sx wx cx : Value} {D : Dk} (h : Two B w gd gx sd wd cd sx wx cx D) (k : Nat) (hk : or2 (foot gd sd wd) (foot gx sx wx) k) : B ≤ k ∧ k < w.heap.size := by
  rcases hk with hk | hk
  · exact ⟨(h.d.types k hk).1, h.d.lt k hk⟩
  · exact ⟨(h.x.types k hk).1, h.x.lt k hk⟩
theorem LeftT.open_ {B : Nat} {w w' : World} {gd gx : Nat} {sd wd cd sx wx cx : Value} {D D' : Dk} (hT : Two B w gd gx sd wd cd sx wx cx D) (h : LeftT B w w' gd gx (or2 (foot gd sd wd) (foot gx sx wx)) D') :
    Below B w w' ∧ (∀ k, k < w.heap.size → ¬ or2 (foot gd sd wd) (foot gx sx wx) k → w'.heap[k]? = w.heap[k]?) ∧ ∃ sd' wd' cd' sx' wx' cx', Two B w' gd gx sd' wd' cd' sx' wx' cx' D' := by
  obtain ⟨a, b, c, d, e, f, h1, h2⟩ := h
  exact ⟨h2.below hT.le (fun k hk => (hT.base k hk).1), h2.block, a, b, c, d, e, f, h1⟩
theorem fill_zero : fillK 0 0 = List.replicate 64 0 := by decide
/-- x, while its sectors are made -/
structure XMake (w1 wr : World) (k : Nat) (room : Int) (As : Option Addr) (cs : Nat) : Prop where
  xb : XB wr w1.heap.size (.slice As k cs) (.slice none 0 0) (.slice none 0 0) room false 0
  own : wr.ownsRow w1.heap.size 9 1 (.slice As k cs) k (stC (List.replicate k (List.replicate 64 0)))
  below : Below w1.heap.size w1 wr
theorem XMake.next {w1 wr w3 : World} {k : Nat} {room : Int} {As : Option Addr} {cs : Nat} (h : XMake w1 wr k room As cs) {A1 : Option Addr} {c1 : Nat} {o1 o2 : Obj} {base : Nat} (hb : base = w1.heap.size)
    (hown : w3.ownsRow base 9 1 (.slice A1 (k + 1) c1) (k + 1) (stC (List.replicate k (List.replicate 64 0)) ++ [strV (fillK 0 0)])) (hgr : ((wr.drew.alloc o1).alloc o2).grownBy w3 (Value.slice As k cs).ownBlock) :
    XMake w1 (w3.setCell ⟨w1.heap.size, 0, none⟩ (.slice A1 (k + 1) c1)) (k + 1) room A1 c1 := by
  subst hb
  have hg : w1.heap.size < wr.heap.size := (Array.getElem?_eq_some_iff.1 (show wr.heap[w1.heap.size]? = _ from h.xb)).1
  have hsz : ((wr.drew.alloc o1).alloc o2).heap.size = wr.heap.size + 2 := by rw [World.size_alloc, World.size_alloc]; rfl
  have hne : some w1.heap.size ≠ (Value.slice As k cs).ownBlock := fun e => by
    obtain ⟨_, c2, hc2⟩ := own_typed' h.own _ e.symm
    have h1 : wr.heap[w1.heap.size]? = _ := h.xb
    rw [h1] at hc2; cases hc2
  have hold : ∀ j, j < wr.heap.size → some j ≠ (Value.slice As k cs).ownBlock → w3.heap[j]? = wr.heap[j]? := fun j hj hn => by
    rw [hgr.block j (by omega) hn, Below.heap_alloc _ _ _ (by rw [World.size_alloc]; exact Nat.lt_succ_of_lt hj), Below.heap_alloc wr.drew _ _ hj]; rfl
  have h3 : XB w3 w1.heap.size (.slice As k cs) (.slice none 0 0) (.slice none 0 0) room false 0 := by unfold XB; rw [hold _ hg hne]; exact h.xb
  have e1 := heap_setCell_same w3 w1.heap.size 0 _ 40 (.slice A1 (k + 1) c1) h3
  have hoth : ∀ j, j ≠ w1.heap.size → (w3.setCell ⟨w1.heap.size, 0, none⟩ (.slice A1 (k + 1) c1)).heap[j]? = w3.heap[j]? := fun j hj => heap_setCell_other _ _ _ _ hj
  refine ⟨e1, ?_, ?_⟩
  · have e2 : stC (List.replicate (k + 1) (List.replicate 64 0)) = stC (List.replicate k (List.replicate 64 0)) ++ [strV (fillK 0 0)] := by
      rw [fill_zero, List.replicate_succ' (n := k)]; simp [stC]
    rw [e2]
    refine own_same hown (fun j hj => hoth j (fun e => ?_))
    obtain ⟨_, c2, hc2⟩ := own_typed' hown j hj
    subst e
    have h1 : w3.heap[w1.heap.size]? = _ := h3
    rw [h1] at hc2; cases hc2
  · refine ⟨hgr.os.trans h.below.os, hgr.tape.trans h.below.tape, hgr.output.trans h.below.output, by have h4 := hgr.size; have h5 := h.below.size; simp only [World.setCell, Array.size_modify]; omega, fun j hj => ?_⟩
    rw [hoth j (by omega), hold j (by have := h.below.size; omega) (fun e => ?_)]
    · exact h.below.block j hj
    · have h6 := (own_typed' h.own j e.symm).1
      omega
theorem XMake.done {w1 wr : World} {B n : Nat} {room : Int} {As : Option Addr} {cs : Nat} (h : XMake w1 wr n room As cs) (hB : B ≤ w1.heap.size) (hok : (newD n room).Ok) : IsX B wr w1.heap.size (.slice As n cs) (.slice none 0 0) (.slice none 0 0) (newD n room) := by
  have hl : (newD n room).stays.length = n := by simp [newD]
  refine ⟨hok, hB, h.xb, ?_, World.ownsRow_nil _ _ _ _, ⟨none, 0, rfl, by simp [newD], .inl rfl⟩⟩
  rw [hl]
  exact own_mono h.own hB
end Go.Proofs.Ytbimbgefclohlaa
