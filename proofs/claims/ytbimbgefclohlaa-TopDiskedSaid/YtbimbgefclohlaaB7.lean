/- One part of the proof that postmarktop.TopDisked returns true for every input and that its input reads behind the call as it read before (theorem topDisked_holds in YtbimbgefclohlaaC31). The laws of this text have their conditions in their own statements; the theorem that is claimed has none. -/
import Derived.Test.YtbimbgefclohlaaB6
set_option linter.unusedVariables false
set_option linter.unusedSimpArgs false
namespace Go.Proofs.Ytbimbgefclohlaa
open Go.RowKit Go.Proofs.YtbimbgefclohlaaW.PrintWords Go.Proofs.YtbimbgefclohlaaW.PrintLast

theorem flush_region (w : World) (g bs n cs Bx q : Nat) (b : List Int) (cur : Array Value) (Q : Exit → Act → World → Prop) (hP : ∀ c a w, ¬ Q (.panic c) a w)
    (h0 : w.cell? ⟨g, 0, none⟩ = some (.slice (some ⟨bs, 0, none⟩) n cs)) (h1 : w.cell? ⟨Bx, 0, none⟩ = some (.int .i64 (q : Int)))
    (hbc : ∀ j u, (sec b)[j]? = some u → w.drew.cell? ((⟨Bx, 1, none⟩ : Addr).add j) = some u) (hb : b.length = 64) (hq : q < n) (hn : n ≤ 64) (hcur : w.drew.heap[bs]? = some (.cells cur 51 (0, 0))) (hf : q * 64 + 64 ≤ cur.size)
    (u1 u2 u3 u4 u6 u7 u8 u9 u10 u11 u12 u13 u14 u15 u16 u17 u18 u19 u20 u21 u22 u23 u24 u25 u26 u27 u28 u29 u30 u31 u32 u33 u34 : Value)
    (hQ : ∀ x22 x23 x24 x25 x26 x27 x28 x29 x30, Q .normal { tmps := #[.pointer (some ⟨g, 0, none⟩), u1, u2, u3, u4, .pointer (some ⟨Bx, 0, none⟩), u6, u7, u8, u9, u10, u11, u12, u13, u14, u15, u16, u17, u18, u19, u20, u21, x22, x23, x24, x25, x26, x27, x28, x29, x30, u31, u32, u33, u34], defers := [] } (w.drew.setRow bs (cur.toList.take (q * 64) ++ sec b ++ cur.toList.drop (q * 64 + (sec b).length)).toArray)) :
    (Code.region 9 #[{ dst := some 22, op := Go.Op.move (Go.Operand.tmp 0), type := 28, pos := "disk.go:126", after := #[], guard := none }, { dst := some 23, op := Go.Op.nilCheck (Go.Operand.tmp 22), type := 0, pos := "disk.go:126", after := #[{ on := 0, ground := Go.Ground.data }], guard := none }, { dst := some 24, op := Go.Op.fieldAddr 49 (Go.Operand.tmp 23) 0, type := 0, pos := "disk.go:126", after := #[{ on := 1, ground := Go.Ground.data }], guard := none }, { dst := some 25, op := Go.Op.load 44 (Go.Operand.tmp 24), type := 44, pos := "disk.go:126", after := #[{ on := 2, ground := Go.Ground.data }], guard := none }, { dst := some 26, op := Go.Op.fieldAddr 53 (Go.Operand.tmp 5) 0, type := 0, pos := "disk.go:126", after := #[], guard := none }, { dst := some 27, op := Go.Op.load 3 (Go.Operand.tmp 26), type := 3, pos := "disk.go:126", after := #[{ on := 4, ground := Go.Ground.data }], guard := none }, { dst := some 28, op := Go.Op.fieldAddr 53 (Go.Operand.tmp 5) 1, type := 0, pos := "disk.go:126", after := #[], guard := none }, { dst := some 29, op := Go.Op.load 51 (Go.Operand.tmp 28), type := 51, pos := "disk.go:126", after := #[{ on := 6, ground := Go.Ground.data }], guard := none }, { dst := some 30, op := Go.Op.indexAddr 44 (Go.Operand.tmp 25) (Go.Operand.tmp 27), type := 0, pos := "disk.go:126", after := #[{ on := 3, ground := Go.Ground.data }, { on := 5, ground := Go.Ground.data }, { on := 0, ground := Go.Ground.phase }, { on := 1, ground := Go.Ground.phase }, { on := 2, ground := Go.Ground.phase }, { on := 3, ground := Go.Ground.phase }, { on := 4, ground := Go.Ground.phase }, { on := 5, ground := Go.Ground.phase }, { on := 6, ground := Go.Ground.phase }, { on := 7, ground := Go.Ground.phase }], guard := none }, { dst := none, op := Go.Op.store 51 (Go.Operand.tmp 30) (Go.Operand.tmp 29), type := 0, pos := "disk.go:126", after := #[{ on := 8, ground := Go.Ground.data }, { on := 7, ground := Go.Ground.data }, { on := 0, ground := Go.Ground.phase }, { on := 1, ground := Go.Ground.phase }, { on := 2, ground := Go.Ground.phase }, { on := 3, ground := Go.Ground.phase }, { on := 4, ground := Go.Ground.phase }, { on := 5, ground := Go.Ground.phase }, { on := 6, ground := Go.Ground.phase }, { on := 7, ground := Go.Ground.phase }], guard := none }] true).wp Try.prog Q { tmps := #[.pointer (some ⟨g, 0, none⟩), u1, u2, u3, u4, .pointer (some ⟨Bx, 0, none⟩), u6, u7, u8, u9, u10, u11, u12, u13, u14, u15, u16, u17, u18, u19, u20, u21, u22, u23, u24, u25, u26, u27, u28, u29, u30, u31, u32, u33, u34], defers := [] } w := by
  have HBC := Lib.hid hbc
  have HBL := Lib.hid hb
  have HF := Lib.hid hf
  have HCUR := Lib.hid hcur
  have HQ := Lib.hid hQ
  have hq1 : (q : Int) < n := by omega
  have hq0 : (0 : Int) ≤ q := by omega
  clear hbc hb hf hcur hQ
  refine start_ (n := 10) (S := fun w' => w'.cell? ⟨g, 0, none⟩ = some (.slice (some ⟨bs, 0, none⟩) n cs) ∧ w'.cell? ⟨Bx, 0, none⟩ = some (.int .i64 (q : Int))) (ds := [9]) #[false, false, false, false, false, false, false, false, false, false] (by kernel_rfl) rfl rfl ⟨h0, h1⟩ (fun hHeld => ?_)
  refine pure_ (i := 0) (N := some 22) (v := ?_) (a' := ?_) #[true, false, false, false, false, false, false, false, false, false] rfl rfl (by kernel_rfl) (fun _ _ _ h => (hP _ _ _ h).elim) (Or.inl ⟨by rfl, ?_⟩) ?_ ?_
  rotate_left
  · intro w'
    go_simp
    with_reducible rfl
  rotate_left
  · simp only [Act.put, List.setIfInBounds_toArray, List.set_cons_zero, List.set_cons_succ, i64_w, i32_w]
    rfl
  refine pure_ (i := 1) (N := some 23) (v := ?_) (a' := ?_) #[true, true, false, false, false, false, false, false, false, false] rfl rfl (by kernel_rfl) (fun _ _ _ h => (hP _ _ _ h).elim) (Or.inl ⟨by rfl, ?_⟩) ?_ ?_
  rotate_left
  · intro w'
    go_simp
    with_reducible rfl
  rotate_left
  · simp only [Act.put, List.setIfInBounds_toArray, List.set_cons_zero, List.set_cons_succ, i64_w, i32_w]
    rfl
  refine pure_ (i := 2) (N := some 24) (v := ?_) (a' := ?_) #[true, true, true, false, false, false, false, false, false, false] rfl rfl (by kernel_rfl) (fun _ _ _ h => (hP _ _ _ h).elim) (Or.inl ⟨by rfl, ?_⟩) ?_ ?_
  rotate_left
  · intro w'
    go_simp
    with_reducible rfl
  rotate_left
  · simp only [Act.put, List.setIfInBounds_toArray, List.set_cons_zero, List.set_cons_succ, i64_w, i32_w]
    rfl
  refine pure_ (i := 4) (N := some 26) (v := ?_) (a' := ?_) #[true, true, true, false, true, false, false, false, false, false] rfl rfl (by kernel_rfl) (fun _ _ _ h => (hP _ _ _ h).elim) (Or.inl ⟨by rfl, ?_⟩) ?_ ?_
  rotate_left
  · intro w'
    go_simp
    with_reducible rfl
  rotate_left
  · simp only [Act.put, List.setIfInBounds_toArray, List.set_cons_zero, List.set_cons_succ, i64_w, i32_w]
    rfl
  refine pure_ (i := 6) (N := some 28) (v := ?_) (a' := ?_) #[true, true, true, false, true, false, true, false, false, false] rfl rfl (by kernel_rfl) (fun _ _ _ h => (hP _ _ _ h).elim) (Or.inl ⟨by rfl, ?_⟩) ?_ ?_
  rotate_left
  · intro w'
    go_simp
    with_reducible rfl
  rotate_left
  · simp only [Act.put, List.setIfInBounds_toArray, List.set_cons_zero, List.set_cons_succ, i64_w, i32_w]
    rfl
  refine take_ (i := 3) (N := some 25) (v := ?_) (a' := ?_) #[true, true, true, true, true, false, true, false, false, false] rfl rfl (by kernel_rfl) (fun _ _ _ h => (hP _ _ _ h).elim) (Or.inl ⟨by rfl, ?_⟩) hHeld ?_ ?_
  rotate_left
  · rintro w' ⟨s0, s1⟩
    go_simp
    with_reducible rfl
  rotate_left
  · simp only [Act.put, List.setIfInBounds_toArray, List.set_cons_zero, List.set_cons_succ, i64_w, i32_w]
    rfl
  refine take_ (i := 5) (N := some 27) (v := ?_) (a' := ?_) #[true, true, true, true, true, true, true, false, false, false] rfl rfl (by kernel_rfl) (fun _ _ _ h => (hP _ _ _ h).elim) (Or.inl ⟨by rfl, ?_⟩) hHeld ?_ ?_
  rotate_left
  · rintro w' ⟨s0, s1⟩
    go_simp
    with_reducible rfl
  rotate_left
  · simp only [Act.put, List.setIfInBounds_toArray, List.set_cons_zero, List.set_cons_succ, i64_w, i32_w]
    rfl
  refine one_ (i := 7) (N := some 29) #[true, true, true, true, true, true, true, true, false, false] rfl rfl (by kernel_rfl) (by decide) (fun K hK => ?_)
  rw [if_pos (by rfl)]
  refine wp_load_agg 51 (.tmp 28) (by rfl) ⟨Bx, 1, none⟩ (by rfl) (sec b) _ HBC.out Try.underlying51 rfl (by rw [i51, sec_length, HBL.out]) ?_
  refine hK.out _ _ ⟨hHeld.1, hHeld.2⟩ (fun hHeld => ?_)
  clear hK K
  refine norm_ (a' := ?_) ?_ ?_
  rotate_left
  · show Act.put _ (some 29) _ = _
    simp only [Act.put, List.setIfInBounds_toArray, List.set_cons_zero, List.set_cons_succ, i64_w, i32_w]
    rfl
  refine pure_ (i := 8) (N := some 30) (v := ?_) (a' := ?_) #[true, true, true, true, true, true, true, true, true, false] rfl rfl (by kernel_rfl) (fun _ _ _ h => (hP _ _ _ h).elim) (Or.inl ⟨by rfl, ?_⟩) ?_ ?_
  rotate_left
  · intro w'
    go_simp
    with_reducible rfl
  rotate_left
  · simp only [Act.put, List.setIfInBounds_toArray, List.set_cons_zero, List.set_cons_succ, i64_w, i32_w]
    rfl
  refine last_ (i := 9) (N := none) #[true, true, true, true, true, true, true, true, true, true] rfl rfl (by kernel_rfl) (by decide) (fun K hK => ?_)
  rw [if_pos (by rfl)]
  refine wp_store_agg 51 (.tmp 30) (.tmp 29) (by rfl) bs (q * 64) (by rfl) (sec b) (by rfl) cur 51 HCUR.out (by rw [sec_length, HBL.out]; exact HF.out) (sec_one b) (by rw [i51, sec_length, HBL.out]) ?_
  refine hK.out _ _ ?_
  clear hK K
  refine done_ (by kernel_rfl) ?_

  exact HQ.out _ _ _ _ _ _ _ _ _
end Go.Proofs.Ytbimbgefclohlaa
