/- One part of the proof that postmarktop.TopDisked returns true for every input and that its input reads behind the call as it read before (theorem topDisked_holds in YtbimbgefclohlaaC31). The laws of this text have their conditions in their own statements; the theorem that is claimed has none. -/
import Derived.Test.YtbimbgefclohlaaA4
import Derived.Test.YtbimbgefclohlaaWWords
import Derived.Test.YtbimbgefclohlaaWLast
set_option linter.unusedVariables false
set_option linter.unusedSimpArgs false
namespace Go.Proofs.Ytbimbgefclohlaa
open Go.RowKit Go.Shelf Go.Proofs.YtbimbgefclohlaaW.PrintWords Go.Proofs.YtbimbgefclohlaaW.PrintLast
attribute [local go_sem] Oper.semAt_some

theorem i5 : (Try.prog.info? 5).map (·.size) = some 1 := by kernel_rfl

def deferB : Op → Bool
  | .defer _ => true
  | _ => false
theorem nodefer_of {ops : Array Oper} (h : ops.all (fun o => !deferB o.op) = true) : ∀ (i : Nat) (o : Oper) (c : Call), ops[i]? = some o → o.op ≠ .defer c := by
  intro i o c hi he
  have h1 := Array.all_eq_true'.1 h o (Array.mem_of_getElem? hi)
  rw [he] at h1
  simp [deferB] at h1

section
variable {P : Program} {ops : Array Oper} {Q : Exit → Act → World → Prop} {S : World → Prop} {ds : List Nat}
theorem round_start_ {r m : Nat} {id n : Nat} {a : Act} {w : World} (l : Array Bool) (hm : P.follows .mixedOrders = true) (hn : ops.size = n) (hl : Array.replicate n false = l) (hS : S w.drew)
    (hL : ¬ LetsOut Q) (hd : ∀ (i : Nat) (o : Oper) (c : Call), ops[i]? = some o → o.op ≠ .defer c)
    (h : S w.drew → wpAnyLast P .any ops Q S ds n l a w.drew) : (Code.region id ops true).wpIn (Fence.wide.inRound r) m P Q a w := by
  subst hn
  subst hl
  exact round_region_any hm hL hd (wpAny_of_last _ _ _ _ (h hS))
theorem wp_copy_row {o : Oper} {a : Act} {w : World} {K : Act → World → Prop} (d s : Operand) (dT sT : TypeId)
    (ho : o.op = .call { callee := .builtin .copy, args := #[d, s], argTypes := #[dT, sT] }) (elem : TypeId) (hu : P.underlying dT = some (.slice elem)) (hsz : (P.info? elem).map (·.size) = some 1)
    (g off dLen dCap : Nat) (ad : Addr) (sLen sCap : Nat) (hd : a.eval d = .slice (some ⟨g, off, none⟩) dLen dCap) (hs : a.eval s = .slice (some ad) sLen sCap)
    (cur : Array Value) (t : TypeId) (hg : w.heap[g]? = some (.cells cur t (0, 0))) (cs : List Value) (hn : cs.length = Nat.min sLen dLen)
    (hsrc : ∀ j v, cs[j]? = some v → w.cell? (ad.add j) = some v)
    (hfit : off + cs.length ≤ cur.size) (h1 : ∀ v ∈ cs, v.oneCell' = true)
    (h : K (a.put o.dst (goInt cs.length)) (w.setRow g (cur.toList.take off ++ cs ++ cur.toList.drop (off + cs.length)).toArray)) : o.wp P a w K Q := by
  have hr := run_copy_row (P := P) w dT sT o.type elem g off dLen dCap ad sLen sCap cur t cs hu hsz hg hn hsrc hfit h1
  unfold Oper.wp execOp
  simp only [ho, resolve, invoke, builtin, Sem.run_bind, Sem.run_pure, Result.andThen_ok, List.map_toArray, List.map_cons, List.map_nil, hd, hs, hr]
  exact h
end

theorem run_sliceAt_arr (q3 : Nat) (h : q3 ≤ 64) (a : Addr) (w : World) : (Instr.sliceAt 51 (.pointer (some a)) none (some (.int .i64 (q3 : Int))) none).run Try.prog w = .ok (.slice (some a) q3 64) w := by
  unfold Instr.sliceAt
  have h0 : (q3 : Int) ≤ 64 := by omega
  simp [Sem.run_bind, run_underlying Try.underlying51, Instr.sliceBounds, Instr.sureAddr, go_sem, h0]
theorem sec_take_one (x : List Int) (n : Nat) : ∀ v ∈ (sec x).take n, v.oneCell' = true := fun v hv => sec_one x v (List.mem_of_mem_take hv)

def stepC (cur : List Value) (x : Nat × List Int × Nat) : List Value := cur.take (x.1 * 64) ++ (sec x.2.1).take x.2.2 ++ cur.drop (x.1 * 64 + x.2.2)
theorem stepC_length (cur : List Value) (x : Nat × List Int × Nat) (h2 : x.2.1.length = 64) (h3 : x.2.2 ≤ 64) (h1 : x.1 * 64 + 64 ≤ cur.length) : (stepC cur x).length = cur.length := by
  simp [stepC, sec_length, h2]; omega


set_option maxRecDepth 100000 in
set_option maxHeartbeats 2000000 in
theorem falls_copy (r mm : Nat) (Q : Exit → Act → World → Prop) (hL : ¬ LetsOut Q) (hP : ∀ c a w, ¬ Q (.panic c) a w) (b0 g bs n cs Bx q1 q3 : Nat) (q2 : List Int) (cur1 : List Value) (W : World)
    (t1 t6 t7 t8 t9 t10 t11 t12 u13 u14 u15 u16 u17 u18 u19 u20 u21 u22 u23 u24 u25 u26 u27 u28 u29 u30 u31 u32 u33 u34 u35 u0 u3 : Value)
    (hS1 : W.cell? ⟨b0, 0, none⟩ = some (.pointer (some ⟨g, 0, none⟩))) (hS2 : W.cell? ⟨g, 0, none⟩ = some (.slice (some ⟨bs, 0, none⟩) n cs)) (hS3 : W.cell? ⟨Bx, 0, none⟩ = some (.int .i64 (q1 : Int)))
    (hq1 : q1 < n) (hn : n ≤ 64) (hq2 : q2.length = 64) (hq3 : q3 ≤ 64) (hfit : n * 64 ≤ cur1.length)
    (hcur : W.drew.heap[bs]? = some (.cells cur1.toArray 51 (0, 0))) (hsrc : ∀ j v, ((sec q2).take q3)[j]? = some v → W.drew.cell? ((⟨Bx, 1, none⟩ : Addr).add j) = some v)
    (hQ : ∀ a', Q .normal a' (W.drew.setRow bs (cur1.toArray.toList.take (q1 * 64) ++ (sec q2).take q3 ++ cur1.toArray.toList.drop (q1 * 64 + ((sec q2).take q3).length)).toArray)) :
    (Code.region 5 #[{ dst := some 13, op := Go.Op.load 28 (Go.Operand.tmp 2), type := 28, pos := "disk.go:78", after := #[], guard := none }, { dst := some 14, op := Go.Op.nilCheck (Go.Operand.tmp 13), type := 0, pos := "disk.go:78", after := #[{ on := 0, ground := Go.Ground.data }], guard := none }, { dst := some 15, op := Go.Op.fieldAddr 49 (Go.Operand.tmp 14) 0, type := 0, pos := "disk.go:78", after := #[{ on := 1, ground := Go.Ground.data }], guard := none }, { dst := some 16, op := Go.Op.load 44 (Go.Operand.tmp 15), type := 44, pos := "disk.go:78", after := #[{ on := 2, ground := Go.Ground.data }], guard := none }, { dst := some 17, op := Go.Op.fieldAddr 53 (Go.Operand.tmp 4) 0, type := 0, pos := "disk.go:78", after := #[], guard := none }, { dst := some 18, op := Go.Op.load 3 (Go.Operand.tmp 17), type := 3, pos := "disk.go:78", after := #[{ on := 4, ground := Go.Ground.data }], guard := none }, { dst := some 19, op := Go.Op.indexAddr 44 (Go.Operand.tmp 16) (Go.Operand.tmp 18), type := 0, pos := "disk.go:78", after := #[{ on := 3, ground := Go.Ground.data }, { on := 5, ground := Go.Ground.data }], guard := none }, { dst := some 20, op := Go.Op.move (Go.Operand.tmp 5), type := 3, pos := "disk.go:78", after := #[], guard := none }, { dst := some 21, op := Go.Op.slice 51 (Go.Operand.tmp 19) none (some (Go.Operand.tmp 20)) none, type := 25, pos := "disk.go:78", after := #[{ on := 6, ground := Go.Ground.data }, { on := 7, ground := Go.Ground.data }], guard := none }, { dst := some 22, op := Go.Op.fieldAddr 53 (Go.Operand.tmp 4) 1, type := 0, pos := "disk.go:78", after := #[], guard := none }, { dst := some 23, op := Go.Op.move (Go.Operand.tmp 5), type := 3, pos := "disk.go:78", after := #[], guard := none }, { dst := some 24, op := Go.Op.slice 51 (Go.Operand.tmp 22) none (some (Go.Operand.tmp 23)) none, type := 25, pos := "disk.go:78", after := #[{ on := 9, ground := Go.Ground.data }, { on := 10, ground := Go.Ground.data }], guard := none }, { dst := some 25, op := Go.Op.call { callee := Go.Callee.builtin Go.Builtin.copy, args := #[Go.Operand.tmp 21, Go.Operand.tmp 24], argTypes := #[25, 25] }, type := 3, pos := "disk.go:78", after := #[{ on := 8, ground := Go.Ground.data }, { on := 11, ground := Go.Ground.data }], guard := none }] true).wpIn (Fence.wide.inRound r) mm Try.prog Q { tmps := #[u0, t1, .pointer (some ⟨b0, 0, none⟩), u3, .pointer (some ⟨Bx, 0, none⟩), .int .i64 (q3 : Int), t6, t7, t8, t9, t10, t11, t12, u13, u14, u15, u16, u17, u18, u19, u20, u21, u22, u23, u24, u25, u26, u27, u28, u29, u30, u31, u32, u33, u34, u35], defers := [] } W := by
  have hq1' : (q1 : Int) < n := by omega
  have hsl := run_sliceAt_arr q3 hq3
  refine round_start_ (n := 13) (S := fun w' => w'.cell? ⟨b0, 0, none⟩ = some (.pointer (some ⟨g, 0, none⟩)) ∧ w'.cell? ⟨g, 0, none⟩ = some (.slice (some ⟨bs, 0, none⟩) n cs) ∧ w'.cell? ⟨Bx, 0, none⟩ = some (.int .i64 (q1 : Int))) (ds := [12]) #[false, false, false, false, false, false, false, false, false, false, false, false, false] (by kernel_rfl) rfl rfl ⟨hS1, hS2, hS3⟩ hL (nodefer_of (by kernel_rfl)) (fun hHeld => ?_)
  refine pure_ (i := 4) (N := some 17) (v := ?_) (a' := ?_) #[false, false, false, false, true, false, false, false, false, false, false, false, false] rfl rfl (by kernel_rfl) (fun _ _ _ h => (hP _ _ _ h).elim) (Or.inl ⟨by rfl, ?_⟩) ?_ ?_
  rotate_left
  · intro w'
    go_simp
    with_reducible rfl
  rotate_left
  · simp only [Act.put, List.setIfInBounds_toArray, List.set_cons_zero, List.set_cons_succ, i64_w, i32_w]
    rfl
  refine pure_ (i := 7) (N := some 20) (v := ?_) (a' := ?_) #[false, false, false, false, true, false, false, true, false, false, false, false, false] rfl rfl (by kernel_rfl) (fun _ _ _ h => (hP _ _ _ h).elim) (Or.inl ⟨by rfl, ?_⟩) ?_ ?_
  rotate_left
  · intro w'
    go_simp
    with_reducible rfl
  rotate_left
  · simp only [Act.put, List.setIfInBounds_toArray, List.set_cons_zero, List.set_cons_succ, i64_w, i32_w]
    rfl
  refine pure_ (i := 9) (N := some 22) (v := ?_) (a' := ?_) #[false, false, false, false, true, false, false, true, false, true, false, false, false] rfl rfl (by kernel_rfl) (fun _ _ _ h => (hP _ _ _ h).elim) (Or.inl ⟨by rfl, ?_⟩) ?_ ?_
  rotate_left
  · intro w'
    go_simp
    with_reducible rfl
  rotate_left
  · simp only [Act.put, List.setIfInBounds_toArray, List.set_cons_zero, List.set_cons_succ, i64_w, i32_w]
    rfl
  refine pure_ (i := 10) (N := some 23) (v := ?_) (a' := ?_) #[false, false, false, false, true, false, false, true, false, true, true, false, false] rfl rfl (by kernel_rfl) (fun _ _ _ h => (hP _ _ _ h).elim) (Or.inl ⟨by rfl, ?_⟩) ?_ ?_
  rotate_left
  · intro w'
    go_simp
    with_reducible rfl
  rotate_left
  · simp only [Act.put, List.setIfInBounds_toArray, List.set_cons_zero, List.set_cons_succ, i64_w, i32_w]
    rfl
  refine pure_ (i := 11) (N := some 24) (v := ?_) (a' := ?_) #[false, false, false, false, true, false, false, true, false, true, true, true, false] rfl rfl (by kernel_rfl) (fun _ _ _ h => (hP _ _ _ h).elim) (Or.inl ⟨by rfl, ?_⟩) ?_ ?_
  rotate_left
  · intro w'
    go_simp
    with_reducible rfl
  rotate_left
  · simp only [Act.put, List.setIfInBounds_toArray, List.set_cons_zero, List.set_cons_succ, i64_w, i32_w]
    rfl
  refine take_ (i := 0) (N := some 13) (v := ?_) (a' := ?_) #[true, false, false, false, true, false, false, true, false, true, true, true, false] rfl rfl (by kernel_rfl) (fun _ _ _ h => (hP _ _ _ h).elim) (Or.inl ⟨by rfl, ?_⟩) hHeld ?_ ?_
  rotate_left
  · rintro w' ⟨s0, s1, s2⟩
    go_simp
    with_reducible rfl
  rotate_left
  · simp only [Act.put, List.setIfInBounds_toArray, List.set_cons_zero, List.set_cons_succ, i64_w, i32_w]
    rfl
  refine pure_ (i := 1) (N := some 14) (v := ?_) (a' := ?_) #[true, true, false, false, true, false, false, true, false, true, true, true, false] rfl rfl (by kernel_rfl) (fun _ _ _ h => (hP _ _ _ h).elim) (Or.inl ⟨by rfl, ?_⟩) ?_ ?_
  rotate_left
  · intro w'
    go_simp
    with_reducible rfl
  rotate_left
  · simp only [Act.put, List.setIfInBounds_toArray, List.set_cons_zero, List.set_cons_succ, i64_w, i32_w]
    rfl
  refine pure_ (i := 2) (N := some 15) (v := ?_) (a' := ?_) #[true, true, true, false, true, false, false, true, false, true, true, true, false] rfl rfl (by kernel_rfl) (fun _ _ _ h => (hP _ _ _ h).elim) (Or.inl ⟨by rfl, ?_⟩) ?_ ?_
  rotate_left
  · intro w'
    go_simp
    with_reducible rfl
  rotate_left
  · simp only [Act.put, List.setIfInBounds_toArray, List.set_cons_zero, List.set_cons_succ, i64_w, i32_w]
    rfl
  refine take_ (i := 3) (N := some 16) (v := ?_) (a' := ?_) #[true, true, true, true, true, false, false, true, false, true, true, true, false] rfl rfl (by kernel_rfl) (fun _ _ _ h => (hP _ _ _ h).elim) (Or.inl ⟨by rfl, ?_⟩) hHeld ?_ ?_
  rotate_left
  · rintro w' ⟨s0, s1, s2⟩
    go_simp
    with_reducible rfl
  rotate_left
  · simp only [Act.put, List.setIfInBounds_toArray, List.set_cons_zero, List.set_cons_succ, i64_w, i32_w]
    rfl
  refine take_ (i := 5) (N := some 18) (v := ?_) (a' := ?_) #[true, true, true, true, true, true, false, true, false, true, true, true, false] rfl rfl (by kernel_rfl) (fun _ _ _ h => (hP _ _ _ h).elim) (Or.inl ⟨by rfl, ?_⟩) hHeld ?_ ?_
  rotate_left
  · rintro w' ⟨s0, s1, s2⟩
    go_simp
    with_reducible rfl
  rotate_left
  · simp only [Act.put, List.setIfInBounds_toArray, List.set_cons_zero, List.set_cons_succ, i64_w, i32_w]
    rfl
  refine pure_ (i := 6) (N := some 19) (v := ?_) (a' := ?_) #[true, true, true, true, true, true, true, true, false, true, true, true, false] rfl rfl (by kernel_rfl) (fun _ _ _ h => (hP _ _ _ h).elim) (Or.inl ⟨by rfl, ?_⟩) ?_ ?_
  rotate_left
  · intro w'
    go_simp
    with_reducible rfl
  rotate_left
  · simp only [Act.put, List.setIfInBounds_toArray, List.set_cons_zero, List.set_cons_succ, i64_w, i32_w]
    rfl
  refine pure_ (i := 8) (N := some 21) (v := ?_) (a' := ?_) #[true, true, true, true, true, true, true, true, true, true, true, true, false] rfl rfl (by kernel_rfl) (fun _ _ _ h => (hP _ _ _ h).elim) (Or.inl ⟨by rfl, ?_⟩) ?_ ?_
  rotate_left
  · intro w'
    go_simp
    with_reducible rfl
  rotate_left
  · simp only [Act.put, List.setIfInBounds_toArray, List.set_cons_zero, List.set_cons_succ, i64_w, i32_w]
    rfl
  refine last_ (i := 12) (N := some 25) #[true, true, true, true, true, true, true, true, true, true, true, true, true] rfl rfl (by kernel_rfl) (by decide) (fun K hK => ?_)
  rw [if_pos (by rfl)]
  refine wp_copy_row (.tmp 21) (.tmp 24) 25 25 rfl 5 Try.underlying25 i5 bs (q1 * 64) q3 64 ⟨Bx, 1, none⟩ q3 64 (by rfl) (by rfl) cur1.toArray 51 hcur ((sec q2).take q3) (by simp [sec_length, hq2]; omega) hsrc (by simp [sec_length, hq2]; omega) (sec_take_one _ _) ?_
  refine hK.out _ _ ?_
  clear hK K
  refine norm_ (a' := ?_) ?_ ?_
  rotate_left
  · show Act.put _ (some 25) _ = _
    simp only [Act.put, List.setIfInBounds_toArray, List.set_cons_zero, List.set_cons_succ, i64_w, i32_w]
    rfl
  refine done_ (by kernel_rfl) ?_

  exact hQ _
end Go.Proofs.Ytbimbgefclohlaa
