/- One part of the proof that postmarktop.TopDisked returns true for every input and that its input reads behind the call as it read before (theorem topDisked_holds in YtbimbgefclohlaaC31). The laws of this text have their conditions in their own statements; the theorem that is claimed has none. -/
import Derived.Test.YtbimbgefclohlaaC29
import Derived.ChangeSlices
import Derived.ChangeOld
import Derived.SizedLaws
import Derived.Lib.SmallJoins
set_option linter.unusedVariables false
set_option linter.unusedSimpArgs false
namespace Go.Proofs.Ytbimbgefclohlaa
open Go.RowKit Go.ChangeShapes Go.WideShapes

theorem wf_u8 {n : Int} (h : (Lit.int .u8 n).wf = true) : 0 ≤ n ∧ n ≤ 255 := by
  have h1 : (decide (IntKind.min .u8 ≤ n) && decide (n ≤ IntKind.max .u8)) = true := h
  rw [Bool.and_eq_true, decide_eq_true_eq, decide_eq_true_eq] at h1
  have e1 : IntKind.min .u8 = 0 := by decide
  have e2 : IntKind.max .u8 = 255 := by decide
  omega
theorem wf_i64 {n : Int} (h : (Lit.int .i64 n).wf = true) : n ≤ 9223372036854775807 := by
  have h1 : (decide (IntKind.min .i64 ≤ n) && decide (n ≤ IntKind.max .i64)) = true := h
  rw [Bool.and_eq_true, decide_eq_true_eq, decide_eq_true_eq] at h1
  have e2 : IntKind.max .i64 = 9223372036854775807 := by decide
  omega
theorem list4 {α : Type} {cs : List α} (h : cs.length = 4) : ∃ a b c d, cs = [a, b, c, d] := by
  match cs, h with
  | [a, b, c, d], _ => exact ⟨a, b, c, d, rfl⟩
theorem exists_list {α : Type} (d : α) : ∀ (n : Nat) (p : Nat → α → Prop), (∀ k, k < n → ∃ x, p k x) → ∃ l : List α, l.length = n ∧ ∀ k, k < n → p k (l.getD k d)
  | 0, _, _ => ⟨[], rfl, fun k hk => absurd hk (Nat.not_lt_zero _)⟩
  | n + 1, p, h => by
    obtain ⟨l, hl, hp⟩ := exists_list d n p (fun k hk => h k (by omega))
    obtain ⟨x, hx⟩ := h n (by omega)
    refine ⟨l ++ [x], by simp [hl], fun k hk => ?_⟩
    rw [List.getD_eq_getElem?_getD]
    by_cases hk' : k < n
    · rw [List.getElem?_append_left (by omega), ← List.getD_eq_getElem?_getD]; exact hp k hk'
    · obtain rfl : k = n := by omega
      rw [List.getElem?_append_right (by omega), hl, Nat.sub_self]
      exact hx
theorem weights_all_mem {H : Type} {P : Program} {e : TypeId} : ∀ {ds : List (DataW H)} {d : DataW H}, d ∈ ds → ∀ n ∈ d.weights P e, n ∈ DataW.weightsAll P e ds
  | d0 :: ds, d, hd, n, hn => by
    simp only [DataW.weightsAll, List.mem_append]
    rcases List.mem_cons.1 hd with rfl | hd
    · exact .inl hn
    · exact .inr (weights_all_mem hd n hn)

section
variable {H : Type} {enc : TypeId × Value → H} {W : World} {base : Nat} {spare : Nat → Bool} {held : Bool}
theorem bytes_open {fuel : Nat} {v : Value} {y : DataW H × List MemPlace} (h : DataW.trod enc Try.prog W base spare held fuel 25 [v] = some y) (hw : ∀ n ∈ y.1.weights Try.prog 25, n ≤ reachBytes) :
    ∃ ab mb cb b, v = .slice ab mb cb ∧ RB W ab mb b (fun _ => False) := by
  rcases open_ints Try.underlying25 Try.underlying5 (by kernel_rfl) h with ⟨hcs, _⟩ | ⟨x, l, c, zs, hcs, _, hl, hm, hz, hx, hcell, hwz⟩
  · simp at hcs
    exact ⟨none, 0, 0, [], hcs, rb_none W⟩
  · simp at hcs
    obtain ⟨hx, _⟩ := Prod.mk.inj (hx : y = _)
    have hl2 : l ≤ zs.length := by
      rw [hz]; split
      · exact hl
      · exact Nat.le_refl _
    have hb1 : Try.prog.bytesOf 5 = 1 := by kernel_rfl
    have hsz := hw _ (by rw [hx]; simp only [DataW.weights, Try.underlying25]; exact List.mem_cons_self)
    have h1 : (lits (H := H) .u8 (zs.take l)).length + (lits (H := H) .u8 (zs.drop l)).length = zs.length := by
      simp [lits]; omega
    rw [h1, hb1] at hsz
    refine ⟨_, _, _, zs.take l, hcs, ⟨by rw [List.length_take]; omega, by have : reachBytes = 140737488351232 := rfl; omega⟩, fun n hn => wf_u8 (hwz n (List.mem_of_mem_take hn)), fun hp => ⟨x, rfl, ?_, id, fun k hk => ?_⟩⟩
    · have hc := hcell 0 (by omega)
      have := World.cells?_block (ChangeShapes.cells?_one (base := 0) (Nat.zero_le _) hc) (by decide)
      rwa [add_block] at this
    · rw [hcell k (by omega)]
      simp [List.getD_eq_getElem?_getD, List.getElem?_take, hk]
theorem act_open {fuel : Nat} {cs : List Value} {y : DataW H × List MemPlace} (h : DataW.trod enc Try.prog W base spare held fuel 27 cs = some y) (hw : ∀ n ∈ y.1.weights Try.prog 27, n ≤ reachBytes) :
    ∃ (x : A17) (ab : Option Addr) (mb cb : Nat), cs = [.int .u8 x.kind, .int .u8 x.by_, .int .i64 x.at_, .slice ab mb cb] ∧ RB W ab mb x.b (fun _ => False) ∧ (0 ≤ x.kind ∧ x.kind ≤ 255) ∧ (0 ≤ x.by_ ∧ x.by_ ≤ 255) ∧ x.at_ ≤ 9223372036854775807 := by
  obtain ⟨y0, y1, y2, y3, n, hy, hl, h0, h1, h2, h3⟩ := Joins.trod_struct4 Try.underlying27 h
  have hc27 : Try.prog.cellsOf 27 = 4 := by kernel_rfl
  have hc5 : Try.prog.cellsOf 5 = 1 := by kernel_rfl
  have hc3 : Try.prog.cellsOf 3 = 1 := by kernel_rfl
  have hc25 : Try.prog.cellsOf 25 = 1 := by kernel_rfl
  obtain ⟨c0, c1, c2, c3, rfl⟩ := list4 (hl.trans hc27)
  simp only [hc5, hc3, hc25] at h0 h1 h2 h3
  obtain ⟨m0, e0, _, w0⟩ := DataW.trod_int Try.underlying5 h0
  obtain ⟨m1, e1, _, w1⟩ := DataW.trod_int Try.underlying5 h1
  obtain ⟨m2, e2, _, w2⟩ := DataW.trod_int Try.underlying3 h2
  simp at e0 e1 e2
  obtain ⟨ab, mb, cb, b, e3, hrb⟩ := bytes_open (v := c3) h3 (fun n hn => hw n (by
    rw [hy]
    simp only [DataW.weights, Try.underlying27]
    exact DataW.weights_mem_each (j := 3) (t := 25) rfl rfl n hn))
  subst e0 e1 e2 e3
  exact ⟨⟨m0, m1, m2, b⟩, ab, mb, cb, rfl, hrb, wf_u8 w0, wf_u8 w1, wf_i64 w2⟩
theorem acts_open {A : Option Addr} {m c : Nat} {d : DataW H} {ps : List MemPlace} (h : DataW.Trod enc Try.prog W base spare held 22 (.slice A m c) d ps) (hw : ∀ n ∈ d.weights Try.prog 22, n ≤ reachBytes) :
    ∃ l, ActsIn W A m c l := by
  obtain ⟨fuel, hf⟩ := h
  have hc27 : Try.prog.cellsOf 27 = 4 := by kernel_rfl
  rcases DataW.trod_slice Try.underlying22 hf with ⟨hcs, _⟩ | ⟨a, len, cap, elems, rest, n, _, hcs, hx, hb, hl, hm, hlen, hel, _, _⟩
  · simp [Value.cells] at hcs
    obtain ⟨rfl, rfl, rfl⟩ := hcs
    exact ⟨[], acts_none W⟩
  · simp [Value.cells] at hcs
    obtain ⟨rfl, rfl, rfl⟩ := hcs
    obtain ⟨hx, _⟩ := Prod.mk.inj hx
    rw [hc27] at hel
    have each : ∀ k, k < m → ∃ x : A17, ActAt W (a.add (k * 4)) x ∧ a.block < W.heap.size := by
      intro k hk
      have h1 := hel k hk
      rw [List.getElem?_eq_getElem (by omega), Option.bind_eq_some_iff] at h1
      obtain ⟨cs, hcells, ht⟩ := h1
      obtain ⟨x, ab, mb, cb, e, hrb, r1, r2, r3⟩ := act_open ht (fun n hn => hw n (by
        rw [hx]
        simp only [DataW.weights, Try.underlying22, List.mem_cons, List.mem_append]
        exact .inr (.inl (weights_all_mem (List.mem_map_of_mem (List.getElem_mem _)) n hn))))
      obtain ⟨_, hl4, hcell⟩ := World.cells?_some hcells
      have hblk := World.cells?_block hcells (by decide)
      rw [add_block] at hblk
      refine ⟨x, ⟨ab, mb, cb, fun j u hu => ?_, hrb, r1, r2, r3⟩, hblk⟩
      have hj : j < 4 := (List.getElem?_eq_some_iff.1 hu).1
      rw [hcell j hj, e]
      exact hu
    obtain ⟨l, hl2, hp⟩ := exists_list (⟨0, 0, 0, []⟩ : A17) m _ each
    refine ⟨l, hl2, hl, by have : maxLen = 9223372036854775807 := rfl; omega, fun hp0 => ⟨a, rfl, (hp 0 hp0).2, fun k hk => (hp k hk).1⟩⟩
end
end Go.Proofs.Ytbimbgefclohlaa
