/- One part of the proof that postmarktop.TopDisked returns true for every input and that its input reads behind the call as it read before (theorem topDisked_holds in YtbimbgefclohlaaC31). The laws of this text have their conditions in their own statements; the theorem that is claimed has none. -/
import Derived.Test.YtbimbgefclohlaaC27
set_option linter.unusedVariables false
set_option linter.unusedSimpArgs false
namespace Go.Proofs.Ytbimbgefclohlaa
open Go.RowKit

def actC (x : A17 × Option Addr × Nat × Nat) : List Value := [.int .u8 x.1.kind, .int .u8 x.1.by_, .int .i64 x.1.at_, .slice x.2.1 x.2.2.1 x.2.2.2]
def ActOk (w : World) (x : A17 × Option Addr × Nat × Nat) : Prop := RB w x.2.1 x.2.2.1 x.1.b (fun _ => False) ∧ (0 ≤ x.1.kind ∧ x.1.kind ≤ 255) ∧ (0 ≤ x.1.by_ ∧ x.1.by_ ≤ 255) ∧ x.1.at_ ≤ 9223372036854775807
theorem acts_row {w : World} {g c : Nat} {cs : Array Value} (hr : w.heap[g]? = some (.cells cs 27 (0, 0))) (l : List (A17 × Option Addr × Nat × Nat)) (hcs : cs.toList = l.flatMap actC) (hx : ∀ x ∈ l, ActOk w x) (hc : l.length ≤ c) (hm : l.length ≤ 9223372036854775807) :
    ActsIn w (some ⟨g, 0, none⟩) l.length c (l.map (·.1)) := by
  refine ⟨List.length_map _, hc, hm, fun hp => ⟨_, rfl, (Array.getElem?_eq_some_iff.1 hr).1, fun k hk => ?_⟩⟩
  have h1 := hx l[k] (List.getElem_mem _)
  have h2 : (l.map (·.1)).getD k ⟨0, 0, 0, []⟩ = l[k].1 := by
    rw [List.getD_eq_getElem?_getD, List.getElem?_map, List.getElem?_eq_getElem hk]; rfl
  rw [h2]
  refine ⟨l[k].2.1, l[k].2.2.1, l[k].2.2.2, fun j u hu => ?_, h1⟩
  have hj : j < 4 := (List.getElem?_eq_some_iff.1 hu).1
  have h3 := flat_get (l := l) (f := actC) (L := 4) (fun x _ => rfl) k j hk hj
  rw [add_none, add_none, cell_of_row w g _ _ 27 (0, 0) hr, Nat.zero_add, ← Array.getElem?_toList, hcs, h3]
  exact hu
theorem acts_none (w : World) : ActsIn w none 0 0 [] := ⟨rfl, Nat.le_refl _, by decide, fun h => absurd h (Nat.lt_irrefl _)⟩
theorem heap_new' (w : World) (o : Obj) (k : Nat) (h : k = w.heap.size) : (w.alloc o).heap[k]? = some o := by subst h; exact heap_alloc_new _ _
theorem heap_old' {w : World} {o o' : Obj} {k : Nat} (h : w.heap[k]? = some o) : (w.alloc o').heap[k]? = some o := by rw [Below.heap_alloc _ _ _ (Array.getElem?_eq_some_iff.1 h).1]; exact h
theorem rb_none (w : World) : RB w none 0 [] (fun _ => False) := ⟨⟨rfl, by decide⟩, byteL_nil, fun h => absurd h (Nat.lt_irrefl _)⟩
theorem rb_row {w : World} {g : Nat} {b : List Int} (hr : w.heap[g]? = some (.cells (sec b).toArray 5 (0, 0))) (hb : byteL b) (hm : b.length ≤ 140737488351232) : RB w (some ⟨g, 0, none⟩) b.length b (fun _ => False) :=
  RB.made hr (by rw [List.drop_zero]) rfl hm hb (fun k hk => hk.elim)
theorem byteL_of {b : List Int} (h : b.all (fun c => decide (0 ≤ c ∧ c ≤ 255)) = true) : byteL b := fun c hc => by simpa using List.all_eq_true.1 h c hc
def acts1 (g1 g2 : Nat) : List (A17 × Option Addr × Nat × Nat) := [(⟨0, 1, 0, []⟩, (none, 0, 0)), (⟨4, 0, 0, [10]⟩, (some ⟨g1, 0, none⟩, 1, 1)), (⟨3, 0, 0, []⟩, (none, 0, 0)), (⟨6, 0, 0, []⟩, (none, 0, 0)), (⟨1, 1, 1, []⟩, (none, 0, 0)), (⟨3, 0, 0, []⟩, (none, 0, 0)), (⟨2, 2, 1, []⟩, (none, 0, 0)), (⟨4, 0, 0, [64]⟩, (some ⟨g2, 0, none⟩, 1, 1)), (⟨7, 0, 0, []⟩, (none, 0, 0)), (⟨0, 1, 0, []⟩, (none, 0, 0)), (⟨5, 0, 1, []⟩, (none, 0, 0)), (⟨3, 0, 0, []⟩, (none, 0, 0)), (⟨5, 0, 0, []⟩, (none, 0, 0)), (⟨6, 0, 0, []⟩, (none, 0, 0)), (⟨3, 0, 0, []⟩, (none, 0, 0)), (⟨0, 77, 0, []⟩, (none, 0, 0)), (⟨0, 1, 2, []⟩, (none, 0, 0))]
def acts2 (g1 : Nat) : List (A17 × Option Addr × Nat × Nat) := [(⟨5, 0, 2, [255, 1]⟩, (some ⟨g1, 0, none⟩, 2, 2)), (⟨0, 1, 0, []⟩, (none, 0, 0)), (⟨0, 9, 0, []⟩, (none, 0, 0)), (⟨0, 3, 0, []⟩, (none, 0, 0)), (⟨6, 0, 0, []⟩, (none, 0, 0)), (⟨0, 3, 0, []⟩, (none, 0, 0)), (⟨4, 0, 0, []⟩, (none, 0, 0)), (⟨5, 0, 1, []⟩, (none, 0, 0)), (⟨6, 0, 0, []⟩, (none, 0, 0)), (⟨0, 5, 0, []⟩, (none, 0, 0))]
def acts3 : List (A17 × Option Addr × Nat × Nat) := [(⟨0, 1, 63, []⟩, (none, 0, 0)), (⟨5, 0, 1, []⟩, (none, 0, 0)), (⟨0, 1, 0, []⟩, (none, 0, 0))]
theorem acts1_ok {w : World} {g1 g2 : Nat} (h1 : w.heap[g1]? = some (.cells #[.int .u8 10] 5 (0, 0))) (h2 : w.heap[g2]? = some (.cells #[.int .u8 64] 5 (0, 0))) : ∀ x ∈ acts1 g1 g2, ActOk w x := by
  have r1 : RB w (some ⟨g1, 0, none⟩) 1 [10] (fun _ => False) := rb_row (b := [10]) h1 (byteL_of (by decide)) (by decide)
  have r2 : RB w (some ⟨g2, 0, none⟩) 1 [64] (fun _ => False) := rb_row (b := [64]) h2 (byteL_of (by decide)) (by decide)
  have r0 := rb_none w
  unfold acts1
  simp only [List.forall_mem_cons, ActOk]
  refine ⟨⟨r0, by decide, by decide, by decide⟩, ⟨r1, by decide, by decide, by decide⟩, ⟨r0, by decide, by decide, by decide⟩, ⟨r0, by decide, by decide, by decide⟩, ⟨r0, by decide, by decide, by decide⟩, ⟨r0, by decide, by decide, by decide⟩, ⟨r0, by decide, by decide, by decide⟩, ⟨r2, by decide, by decide, by decide⟩, ⟨r0, by decide, by decide, by decide⟩, ⟨r0, by decide, by decide, by decide⟩, ⟨r0, by decide, by decide, by decide⟩, ⟨r0, by decide, by decide, by decide⟩, ⟨r0, by decide, by decide, by decide⟩, ⟨r0, by decide, by decide, by decide⟩, ⟨r0, by decide, by decide, by decide⟩, ⟨r0, by decide, by decide, by decide⟩, ⟨r0, by decide, by decide, by decide⟩, fun x hx => absurd hx List.not_mem_nil⟩
theorem acts2_ok {w : World} {g1 : Nat} (h1 : w.heap[g1]? = some (.cells #[.int .u8 255, .int .u8 1] 5 (0, 0))) : ∀ x ∈ acts2 g1, ActOk w x := by
  have r1 : RB w (some ⟨g1, 0, none⟩) 2 [255, 1] (fun _ => False) := rb_row (b := [255, 1]) h1 (byteL_of (by decide)) (by decide)
  have r0 := rb_none w
  unfold acts2
  simp only [List.forall_mem_cons, ActOk]
  refine ⟨⟨r1, by decide, by decide, by decide⟩, ⟨r0, by decide, by decide, by decide⟩, ⟨r0, by decide, by decide, by decide⟩, ⟨r0, by decide, by decide, by decide⟩, ⟨r0, by decide, by decide, by decide⟩, ⟨r0, by decide, by decide, by decide⟩, ⟨r0, by decide, by decide, by decide⟩, ⟨r0, by decide, by decide, by decide⟩, ⟨r0, by decide, by decide, by decide⟩, ⟨r0, by decide, by decide, by decide⟩, fun x hx => absurd hx List.not_mem_nil⟩
theorem acts3_ok {w : World} : ∀ x ∈ acts3, ActOk w x := by
  have r0 := rb_none w
  unfold acts3
  simp only [List.forall_mem_cons, ActOk]
  refine ⟨⟨r0, by decide, by decide, by decide⟩, ⟨r0, by decide, by decide, by decide⟩, ⟨r0, by decide, by decide, by decide⟩, fun x hx => absurd hx List.not_mem_nil⟩

set_option maxHeartbeats 8000000 in
set_option maxRecDepth 100000 in
theorem knows_any (w : World) :
    Calls Try.prog 4 #[] w fun e w' => e = .returned (.bool true) ∧ Below w.heap.size w w' := by
  go_enter Try.func4, Try.ntmps4
  go_wp2_with fail
  refine (disked_any _ _ _ _ _ _ _ ((acts1 w.heap.size (w.heap.size + 1)).map (·.1)) (acts_row (heap_new' _ _ _ (by rw [World.size_alloc, World.size_alloc])) (acts1 w.heap.size (w.heap.size + 1)) (by rfl) (acts1_ok (heap_old' (heap_old' (heap_new' _ _ _ rfl))) (heap_old' (heap_new' _ _ _ (by rw [World.size_alloc])))) (by simp [acts1]) (by simp [acts1])) (by decide)).mono ?_
  rintro e w1 ⟨rfl, hb1⟩
  have hB1 : Below w.heap.size w w1 := ((((Below.refl _ w).alloc (Nat.le_refl _) _).alloc (by rw [World.size_alloc]; omega) _).alloc (by rw [World.size_alloc, World.size_alloc]; omega) _).trans (hb1.mono (by rw [World.size_alloc, World.size_alloc, World.size_alloc]; omega))
  have HB1 := Lib.hid hB1
  clear hb1 hB1
  go_wp2_with fail
  refine (disked_any _ _ _ _ _ _ _ ((acts2 w1.heap.size).map (·.1)) (acts_row (heap_new' _ _ _ (by rw [World.size_alloc])) (acts2 w1.heap.size) (by rfl) (acts2_ok (heap_old' (heap_new' _ _ _ rfl))) (by simp [acts2]) (by simp [acts2])) (by decide)).mono ?_
  rintro e w2 ⟨rfl, hb2⟩
  have hB2 : Below w.heap.size w w2 := ((HB1.out.alloc HB1.out.size _).alloc (by rw [World.size_alloc]; have := HB1.out.size; omega) _).trans (hb2.mono (by rw [World.size_alloc, World.size_alloc]; have := HB1.out.size; omega))
  have HB2 := Lib.hid hB2
  clear hb2 hB2
  go_wp2_with fail
  refine (disked_any _ _ _ _ _ _ _ _ (acts_none _) (by decide)).mono ?_
  rintro e w3 ⟨rfl, hb3⟩
  have HB3 := Lib.hid (HB2.out.trans (hb3.mono HB2.out.size))
  clear hb3
  go_wp2_with fail
  refine (disked_any _ _ _ _ _ _ _ _ (acts_none _) (by decide)).mono ?_
  rintro e w4 ⟨rfl, hb4⟩
  have HB4 := Lib.hid (HB3.out.trans (hb4.mono HB3.out.size))
  clear hb4
  go_wp2_with fail
  refine (disked_any _ _ _ _ _ _ _ _ (acts_none _) (by decide)).mono ?_
  rintro e w5 ⟨rfl, hb5⟩
  have HB5 := Lib.hid (HB4.out.trans (hb5.mono HB4.out.size))
  clear hb5
  go_wp2_with fail
  refine (disked_any _ _ _ _ _ _ _ (acts3.map (·.1)) (acts_row (heap_new' _ _ _ rfl) acts3 (by rfl) acts3_ok (by decide) (by decide)) (by decide)).mono ?_
  rintro e w6 ⟨rfl, hb6⟩
  have hB6 : Below w.heap.size w w6 := (HB5.out.alloc HB5.out.size _).trans (hb6.mono (by rw [World.size_alloc]; have := HB5.out.size; omega))
  have HB6 := Lib.hid hB6
  clear hb6 hB6
  go_wp2_with fail
  go_ret
  exact ⟨rfl, HB6.out⟩
end Go.Proofs.Ytbimbgefclohlaa
