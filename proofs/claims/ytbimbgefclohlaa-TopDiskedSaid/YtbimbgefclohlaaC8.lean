/- One part of the proof that postmarktop.TopDisked returns true for every input and that its input reads behind the call as it read before (theorem topDisked_holds in YtbimbgefclohlaaC31). The laws of this text have their conditions in their own statements; the theorem that is claimed has none. -/
import Derived.Test.YtbimbgefclohlaaC7
set_option linter.unusedVariables false
set_option linter.unusedSimpArgs false
namespace Go.Proofs.Ytbimbgefclohlaa
open Go.RowKit

section
variable {P : Program} (w : World)
theorem run_append_nil_none (t ty e : TypeId) (i : TypeInfo) (ht : P.underlying t = some (.slice e)) (hi : P.info? e = some i) (c : Nat) :
    (Builtin.append_ #[t, t] ty #[.slice none 0 0, .slice none 0 c]).run P w = .ok (.slice none 0 0) w := by
  simp [Builtin.append_, run_underlying ht, sizeOf, typeInfo, hi, Builtin.lenOf, Builtin.firstCells]
/-- append(nil, s...) -/
theorem wp_append_nil {o : Oper} {a : Act} {K : Act → World → Prop} {Q : Exit → Act → World → Prop} (s x : Operand) (t : TypeId)
    (ho : o.op = .call { callee := .builtin .append, args := #[s, x], argTypes := #[t, t] })
    (base : Nat) (e : TypeId) (i : TypeInfo) (z : Value) (size bytes : Nat) (ht : P.underlying t = some (.slice e)) (hi : P.info? e = some i) (hz : i.zero = some z)
    (hsize : i.size = size) (hby : i.bytes = bytes) (hzs : z.cells.size = size) (hsz : 0 < size) (hs : a.eval s = .slice none 0 0)
    (A : Option Addr) (m c : Nat) (news : List Value) (hx : a.eval x = .slice A m c) (hl : news.length = m * size) (hnews : 0 < m → ∃ ad, A = some ad ∧ ∀ j u, news[j]? = some u → w.cell? (ad.add j) = some u) (h1 : ∀ u ∈ news, u.oneCell' = true)
    (h63 : m ≤ maxLen) (hbytes : m * bytes ≤ 140737488355328) (hbase : base ≤ w.heap.size)
    (h : ∀ A' c' w', w'.ownsRow base e size (.slice A' m c') m news → Below w.heap.size w w' → K (a.put o.dst (.slice A' m c')) w') : o.wp P a w K Q := by
  cases A with
  | none =>
    have hm : m = 0 := by
      rcases Nat.eq_zero_or_pos m with h0 | h0
      · exact h0
      · obtain ⟨_, h', _⟩ := hnews h0; cases h'
    subst hm
    have hn0 : news = [] := List.eq_nil_of_length_eq_zero (by rw [hl, Nat.zero_mul])
    subst hn0
    unfold Oper.wp execOp
    simp only [ho, resolve, invoke, builtin, Sem.run_bind, Sem.run_pure, Result.andThen_ok, List.map_toArray, List.map_cons, List.map_nil, hs, hx, run_append_nil_none (P := P) w t o.type e i ht hi c]
    exact h _ _ w (World.ownsRow_nil _ _ _ _) (Below.refl _ _)
  | some ad =>
    have hnews' : ∀ j u, news[j]? = some u → w.cell? (ad.add j) = some u := by
      intro j u hu
      rcases Nat.eq_zero_or_pos m with h0 | h0
      · have : news = [] := List.eq_nil_of_length_eq_zero (by rw [hl, h0, Nat.zero_mul])
        rw [this] at hu; simp at hu
      · obtain ⟨ad', e1, e2⟩ := hnews h0
        cases e1
        exact e2 j u hu
    refine wp_append_at w s x t ho base e i z size bytes ht hi hz hsize hby hzs hsz (.slice none 0 0) 0 [] hs (World.ownsRow_nil _ _ _ _) ad m c news hx hl hnews' h1 (by rw [Nat.zero_add]; exact h63) (by rw [Nat.zero_add]; exact hbytes) hbase ?_
    intro v' w' ho' hg _
    rw [Nat.zero_add, List.nil_append] at ho'
    obtain ⟨A', c', rfl⟩ := own_form ho'
    exact h A' c' w' ho' ⟨hg.os, hg.tape, hg.output, hg.size, fun k hk => hg.block k hk (by simp [Value.ownBlock])⟩
end
theorem info9 : ∃ z : Value, z.cells.size = 1 ∧ (Try.prog.info? 9).map (fun i => (i.zero, i.size, i.bytes)) = some (some z, 1, 16) := ⟨((Try.prog.info? 9).bind (·.zero)).getD undef, by kernel_rfl, by kernel_rfl⟩
theorem info61 : ∃ z : Value, z.cells.size = 2 ∧ (Try.prog.info? 61).map (fun i => (i.zero, i.size, i.bytes)) = some (some z, 2, 24) := ⟨((Try.prog.info? 61).bind (·.zero)).getD undef, by kernel_rfl, by kernel_rfl⟩
theorem info5 : ∃ z : Value, z.cells.size = 1 ∧ (Try.prog.info? 5).map (fun i => (i.zero, i.size, i.bytes)) = some (some z, 1, 1) := ⟨((Try.prog.info? 5).bind (·.zero)).getD undef, by kernel_rfl, by kernel_rfl⟩
theorem stC_length (l : List (List Int)) : (stC l).length = l.length := by simp [stC]
theorem stC_one (l : List (List Int)) : ∀ u ∈ stC l, u.oneCell' = true := by
  intro u hu; simp only [stC, List.mem_map] at hu; obtain ⟨x, _, rfl⟩ := hu; rfl
theorem waC_length (l : List (Nat × List Int)) : (waC l).length = l.length * 2 := flat_length (fun x _ => rfl)
theorem waC_one (l : List (Nat × List Int)) : ∀ u ∈ waC l, u.oneCell' = true := by
  intro u hu
  simp only [waC, List.mem_flatMap] at hu
  obtain ⟨x, _, hx⟩ := hu
  simp only [waP, List.mem_cons, List.not_mem_nil, or_false] at hx
  rcases hx with rfl | rfl <;> rfl
end Go.Proofs.Ytbimbgefclohlaa
