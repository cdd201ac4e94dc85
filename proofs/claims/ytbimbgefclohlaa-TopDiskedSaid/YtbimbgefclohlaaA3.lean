/- One part of the proof that postmarktop.TopDisked returns true for every input and that its input reads behind the call as it read before (theorem topDisked_holds in YtbimbgefclohlaaC31). The laws of this text have their conditions in their own statements; the theorem that is claimed has none. -/
import Derived.Test.YtbimbgefclohlaaA2
import Derived.RangeFuncBox
import Derived.RangeFuncBound
import Derived.RangeFuncLeaves
import Derived.Shelf.Abstract
import Derived.TacticsInMore
import Derived.LoopNIn
import Derived.LoopIn
import Derived.Lib.Hide
set_option linter.unusedVariables false
set_option linter.unusedSimpArgs false
namespace Go.Proofs.Ytbimbgefclohlaa
open Go.RowKit Go.Shelf
attribute [local go_sem] Oper.semAt_some

/-- below n0 all but block bs lies as it lay -/
structure KB (n0 bs : Nat) (w w' : World) : Prop where
  os : w'.os = w.os
  tape : w'.tape = w.tape
  output : w'.output = w.output
  size : w.heap.size ≤ w'.heap.size
  block : ∀ k, k < n0 → k ≠ bs → w'.heap[k]? = w.heap[k]?
theorem KB.refl (n0 bs : Nat) (w : World) : KB n0 bs w w := ⟨rfl, rfl, rfl, Nat.le_refl _, fun _ _ _ => rfl⟩
theorem KB.trans {n0 bs : Nat} {a b c : World} (h : KB n0 bs a b) (k : KB n0 bs b c) : KB n0 bs a c :=
  ⟨k.os.trans h.os, k.tape.trans h.tape, k.output.trans h.output, Nat.le_trans h.size k.size, fun i hi hne => (k.block i hi hne).trans (h.block i hi hne)⟩
theorem KB.alloc (n0 bs : Nat) (w : World) (o : Obj) (h : n0 ≤ w.heap.size) : KB n0 bs w (w.alloc o) :=
  ⟨rfl, rfl, rfl, by simp, fun k hk _ => Below.heap_alloc _ _ _ (by omega)⟩
theorem KB.cell {n0 bs : Nat} {w w' : World} (h : KB n0 bs w w') {p : Addr} (hp : p.block < n0) (hne : p.block ≠ bs) : w'.cell? p = w.cell? p := World.cell?_of_block (w := w) (h.block p.block hp hne)

/-- how many bytes of write number i a choice keeps -/
def kn (choice : List Int) (i : Nat) : Int := if i < choice.length then min (choice.getD i 0) 64 else 0

def kencs (x : (Nat × List Int) × Int) : Array Value := #[.agg (wrC x.1).toArray, .int .i64 x.2]
def kelem (waits : List (Nat × List Int)) (choice : List Int) (j : Nat) : (Nat × List Int) × Int := (waits.getD j (0, []), kn choice j)
def upto {α : Type} (f : Nat → α) (k : Nat) : List α := (List.range k).map f
theorem upto_succ {α : Type} (f : Nat → α) (k : Nat) : upto f (k + 1) = upto f k ++ [f k] := by simp [upto, List.range_succ]
theorem upto_length {α : Type} (f : Nat → α) (k : Nat) : (upto f k).length = k := by simp [upto]

theorem sec_length (x : List Int) : (sec x).length = x.length := by simp [sec]
theorem wrC_length (p : Nat × List Int) (h : p.2.length = 64) : (wrC p).length = 65 := by simp [wrC, sec_length, h]
theorem sec_one (x : List Int) : ∀ v ∈ sec x, v.oneCell' = true := by
  intro v hv; simp only [sec, List.mem_map] at hv; obtain ⟨n, _, rfl⟩ := hv; rfl
theorem wrC_one (p : Nat × List Int) : ∀ v ∈ wrC p, v.oneCell' = true := by
  intro v hv; simp only [wrC, List.mem_cons] at hv; rcases hv with rfl | hv
  · rfl
  · exact sec_one _ v hv

/-- what the closure reads -/
structure KeptReads (W : World) (n0 bs B1 B2 g : Nat) (aw : Option Addr) (mw cw : Nat) (waits : List (Nat × List Int)) (ac : Option Addr) (m cc : Nat) (choice : List Int) : Prop where
  b1 : B1 < n0 ∧ B1 ≠ bs ∧ W.cell? ⟨B1, 0, none⟩ = some (.pointer (some ⟨g, 0, none⟩))
  b2 : B2 < n0 ∧ B2 ≠ bs ∧ W.cell? ⟨B2, 0, none⟩ = some (.slice ac m cc)
  gw : g < n0 ∧ g ≠ bs ∧ W.cell? ⟨g, 1, none⟩ = some (.slice aw mw cw)
  wl : waits.length = mw ∧ mw ≤ 1000000 ∧ ∀ p ∈ waits, p.2.length = 64
  wc : 0 < mw → ∃ ad : Addr, aw = some ad ∧ ad.block < n0 ∧ ad.block ≠ bs ∧ ∀ k, k < mw → ∀ j u, (wrC (waits.getD k (0, [])))[j]? = some u → W.cell? ((ad.add (k * 65)).add j) = some u
  cl : choice.length = m ∧ m ≤ 9223372036854775807 ∧ ∀ c ∈ choice, 0 ≤ c ∧ c ≤ 255
  cc : 0 < m → ∃ ad : Addr, ac = some ad ∧ ad.block < n0 ∧ ad.block ≠ bs ∧ ∀ k, k < m → W.cell? (ad.add k) = some (.int .u8 (choice.getD k 0))

theorem KeptReads.kb {W W' : World} {n0 bs B1 B2 g : Nat} {aw : Option Addr} {mw cw : Nat} {waits : List (Nat × List Int)} {ac : Option Addr} {m cc : Nat} {choice : List Int}
    (h : KeptReads W n0 bs B1 B2 g aw mw cw waits ac m cc choice) (k : KB n0 bs W W') : KeptReads W' n0 bs B1 B2 g aw mw cw waits ac m cc choice where
  b1 := ⟨h.b1.1, h.b1.2.1, (k.cell (p := ⟨B1, 0, none⟩) h.b1.1 h.b1.2.1).trans h.b1.2.2⟩
  b2 := ⟨h.b2.1, h.b2.2.1, (k.cell (p := ⟨B2, 0, none⟩) h.b2.1 h.b2.2.1).trans h.b2.2.2⟩
  gw := ⟨h.gw.1, h.gw.2.1, (k.cell (p := ⟨g, 1, none⟩) h.gw.1 h.gw.2.1).trans h.gw.2.2⟩
  wl := h.wl
  wc := fun hp => by
    obtain ⟨ad, e, h1, h2, hc⟩ := h.wc hp
    refine ⟨ad, e, h1, h2, fun i hi j u hu => ?_⟩
    have hb : ((ad.add (i * 65)).add j).block = ad.block := by unfold Addr.add; (repeat' split) <;> rfl
    rw [k.cell (by rw [hb]; exact h1) (by rw [hb]; exact h2)]
    exact hc i hi j u hu
  cl := h.cl
  cc := fun hp => by
    obtain ⟨ad, e, h1, h2, hc⟩ := h.cc hp
    refine ⟨ad, e, h1, h2, fun i hi => ?_⟩
    have hb : (ad.add i).block = ad.block := by unfold Addr.add; split <;> rfl
    rw [k.cell (by rw [hb]; exact h1) (by rw [hb]; exact h2)]
    exact hc i hi

end Go.Proofs.Ytbimbgefclohlaa
