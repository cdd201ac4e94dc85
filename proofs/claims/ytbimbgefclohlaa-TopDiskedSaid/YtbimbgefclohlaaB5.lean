/- One part of the proof that postmarktop.TopDisked returns true for every input and that its input reads behind the call as it read before (theorem topDisked_holds in YtbimbgefclohlaaC31). The laws of this text have their conditions in their own statements; the theorem that is claimed has none. -/
import Derived.Test.YtbimbgefclohlaaB4
import Derived.Maps.AppendAt
set_option linter.unusedVariables false
set_option linter.unusedSimpArgs false
namespace Go.Proofs.Ytbimbgefclohlaa
open Go.RowKit Go.Proofs.YtbimbgefclohlaaW.PrintWords Go.Proofs.YtbimbgefclohlaaW.PrintLast

section
variable {P : Program} (w : World)
theorem wp_append_at {o : Oper} {a : Act} {K : Act → World → Prop} {Q : Exit → Act → World → Prop} (s x : Operand) (t : TypeId)
    (ho : o.op = .call { callee := .builtin .append, args := #[s, x], argTypes := #[t, t] })
    (base : Nat) (e : TypeId) (i : TypeInfo) (z : Value) (size bytes : Nat) (ht : P.underlying t = some (.slice e)) (hi : P.info? e = some i) (hz : i.zero = some z)
    (hsize : i.size = size) (hby : i.bytes = bytes) (hzs : z.cells.size = size) (hsz : 0 < size)
    (v : Value) (n : Nat) (xs : List Value) (hs : a.eval s = v) (hown : w.ownsRow base e size v n xs)
    (ad : Addr) (m c : Nat) (news : List Value) (hx : a.eval x = .slice (some ad) m c) (hl : news.length = m * size) (hnews : ∀ j u, news[j]? = some u → w.cell? (ad.add j) = some u) (h1 : ∀ u ∈ news, u.oneCell' = true)
    (h63 : n + m ≤ maxLen) (hbytes : (n + m) * bytes ≤ 140737488355328) (hbase : base ≤ w.heap.size)
    (h : ∀ v' w', w'.ownsRow base e size v' (n + m) (xs ++ news) → w.grownBy w' v.ownBlock → (v'.ownBlock = v.ownBlock ∨ v'.ownBlock = some w.heap.size) → K (a.put o.dst v') w') : o.wp P a w K Q := by
  obtain ⟨v', w', hr, h2, h3, _, h4⟩ := run_append_own_at (P := P) w base t o.type e i z size bytes ht hi hz hsize hby hzs hsz v n xs hown ad m c news hl hnews h1 h63 hbytes hbase
  unfold Oper.wp execOp
  simp only [ho, resolve, invoke, builtin, Sem.run_bind, Sem.run_pure, Result.andThen_ok, List.map_toArray, List.map_cons, List.map_nil, hs, hx, hr]
  exact h v' w' h2 h3 h4
end
theorem own_form {w : World} {base n : Nat} {e : TypeId} {size : Nat} {v : Value} {xs : List Value} (h : w.ownsRow base e size v n xs) : ∃ A c, v = .slice A n c := by
  rcases h.2 with ⟨rfl, h0⟩ | ⟨b, cap, cur, rfl, _⟩
  · exact ⟨none, 0, by rw [h0]⟩
  · exact ⟨_, _, rfl⟩
theorem arrayAt51 (w : World) (ad : Addr) (m cc : Nat) (hm : 64 ≤ m) : (Instr.arrayAt 51 (.slice (some ad) m cc)).run Try.prog w = .ok (.pointer (some ad)) w := by
  have h : ¬ m < 64 := by omega
  simp [Instr.arrayAt, run_underlying Try.underlying51, h]

section
variable {o : Oper} {a : Act} {w : World} {K : Act → World → Prop} {Q : Exit → Act → World → Prop}
theorem wp_arr51 (x : Operand) (ho : o.op = .sliceToArrayPointer 51 x) (ad : Addr) (m cc : Nat) (hx : a.eval x = .slice (some ad) m cc) (hm : 64 ≤ m) (h : K (a.put o.dst (.pointer (some ad))) w) : o.wp Try.prog a w K Q := by
  unfold Oper.wp execOp
  simp only [ho, hx, Sem.run_bind, arrayAt51 w ad m cc hm, Result.andThen_ok, Sem.run_pure]
  exact h
theorem wp_build53 (x0 y0 : Operand) (ho : o.op = .build 53 #[(0, x0), (1, y0)]) (x : Int) (ys : List Int) (hy : ys.length = 64) (hx0 : a.eval x0 = .int .i64 x) (hy0 : a.eval y0 = .agg (sec ys).toArray)
    (h : K (a.put o.dst (.agg (.int .i64 x :: sec ys).toArray)) w) : o.wp Try.prog a w K Q := by
  unfold Oper.wp execOp
  simp only [ho, List.map_toArray, List.map_cons, List.map_nil, hx0, hy0, Sem.run_bind, build53 w x ys hy, Result.andThen_ok, Sem.run_pure]
  exact h
theorem wp_bs45 (x0 : Operand) (ho : o.op = .buildSlice 45 1 #[(0, x0)]) (cs : List Value) (hc : cs.length = 65) (hx0 : a.eval x0 = .agg cs.toArray)
    (h : K (a.put o.dst (.slice (some ⟨w.heap.size, 0, none⟩) 1 1)) (w.alloc (.cells cs.toArray 53))) : o.wp Try.prog a w K Q := by
  unfold Oper.wp execOp
  simp only [ho, List.map_toArray, List.map_cons, List.map_nil, hx0, Sem.run_bind, buildS45 w cs hc, Result.andThen_ok, Sem.run_pure]
  exact h
end

theorem write_region (w : World) (B g : Nat) (sv cv : Value) (aw : Option Addr) (cw : Nat) (D : Dk) (q : Nat) (adb : Addr) (cc : Nat) (b : List Int) (Q : Exit → Act → World → Prop)
    (hP : ∀ c a w, ¬ Q (.panic c) a w) (h : IsDisk B w g sv (.slice aw D.waits.length cw) cv D) (hb : b.length = 64) (hbc : ∀ j u, (sec b)[j]? = some u → w.drew.cell? (adb.add j) = some u) (hlen : D.waits.length < 10000)
    (u3 u4 u5 u6 u7 u8 u9 u10 u11 u12 u13 u14 u15 u16 u17 u18 u19 u20 u21 u22 u23 u24 u25 u26 u27 u28 u29 u30 u31 u32 u33 u34 u35 u36 u37 u38 u39 u40 u41 u42 u43 u44 u45 u46 u47 u48 u49 u50 u51 u52 u53 u54 u55 u56 u57 u58 u59 u60 u61 u62 : Value)
    (hQ : ∀ A1 c1 w3 x36 x37 x38 x39 x40 x41 x42 x43 x44 x45 x46 x47 x48 x49, w3.ownsRow B 53 65 (.slice A1 (D.waits.length + 1) c1) (D.waits.length + 1) (wrsC D.waits ++ wrC (q, b)) → (w.drew.alloc (.cells (wrC (q, b)).toArray 53)).grownBy w3 (Value.slice aw D.waits.length cw).ownBlock → ((Value.slice A1 (D.waits.length + 1) c1).ownBlock = (Value.slice aw D.waits.length cw).ownBlock ∨ (Value.slice A1 (D.waits.length + 1) c1).ownBlock = some (w.drew.alloc (.cells (wrC (q, b)).toArray 53)).heap.size) →
      Q .normal { tmps := #[.pointer (some ⟨g, 0, none⟩), .int .i64 (q : Int), .slice (some adb) 64 cc, u3, u4, u5, u6, u7, u8, u9, u10, u11, u12, u13, u14, u15, u16, u17, u18, u19, u20, u21, u22, u23, u24, u25, u26, u27, u28, u29, u30, u31, u32, u33, u34, u35, x36, x37, x38, x39, x40, x41, x42, x43, x44, x45, x46, x47, x48, x49, u50, u51, u52, u53, u54, u55, u56, u57, u58, u59, u60, u61, u62], defers := [] } (w3.setCell ⟨g, 1, none⟩ (.slice A1 (D.waits.length + 1) c1)))
    :
    (Code.region 8 #[{ dst := some 36, op := Go.Op.move (Go.Operand.tmp 0), type := 28, pos := "disk.go:105", after := #[], guard := none }, { dst := some 37, op := Go.Op.move (Go.Operand.tmp 0), type := 28, pos := "disk.go:105", after := #[], guard := none }, { dst := some 38, op := Go.Op.nilCheck (Go.Operand.tmp 37), type := 0, pos := "disk.go:105", after := #[{ on := 1, ground := Go.Ground.data }], guard := none }, { dst := some 39, op := Go.Op.fieldAddr 49 (Go.Operand.tmp 38) 1, type := 0, pos := "disk.go:105", after := #[{ on := 2, ground := Go.Ground.data }], guard := none }, { dst := some 40, op := Go.Op.load 45 (Go.Operand.tmp 39), type := 45, pos := "disk.go:105", after := #[{ on := 3, ground := Go.Ground.data }], guard := none }, { dst := some 41, op := Go.Op.move (Go.Operand.tmp 1), type := 3, pos := "disk.go:105", after := #[], guard := none }, { dst := some 42, op := Go.Op.move (Go.Operand.tmp 2), type := 25, pos := "disk.go:105", after := #[], guard := none }, { dst := some 43, op := Go.Op.sliceToArrayPointer 51 (Go.Operand.tmp 42), type := 0, pos := "disk.go:105", after := #[{ on := 6, ground := Go.Ground.data }], guard := none }, { dst := some 44, op := Go.Op.load 51 (Go.Operand.tmp 43), type := 51, pos := "disk.go:105", after := #[{ on := 7, ground := Go.Ground.data }], guard := none }, { dst := some 45, op := Go.Op.build 53 #[(0, Go.Operand.tmp 41), (1, Go.Operand.tmp 44)], type := 53, pos := "disk.go:105", after := #[{ on := 5, ground := Go.Ground.data }, { on := 8, ground := Go.Ground.data }], guard := none }, { dst := some 46, op := Go.Op.buildSlice 45 1 #[(0, Go.Operand.tmp 45)], type := 45, pos := "disk.go:105", after := #[{ on := 9, ground := Go.Ground.data }], guard := none }, { dst := some 47, op := Go.Op.call { callee := Go.Callee.builtin Go.Builtin.append, args := #[Go.Operand.tmp 40, Go.Operand.tmp 46], argTypes := #[45, 45] }, type := 45, pos := "disk.go:105", after := #[{ on := 4, ground := Go.Ground.data }, { on := 10, ground := Go.Ground.data }], guard := none }, { dst := some 48, op := Go.Op.nilCheck (Go.Operand.tmp 36), type := 0, pos := "disk.go:105", after := #[{ on := 0, ground := Go.Ground.data }, { on := 0, ground := Go.Ground.phase }, { on := 1, ground := Go.Ground.phase }, { on := 2, ground := Go.Ground.phase }, { on := 3, ground := Go.Ground.phase }, { on := 4, ground := Go.Ground.phase }, { on := 5, ground := Go.Ground.phase }, { on := 6, ground := Go.Ground.phase }, { on := 7, ground := Go.Ground.phase }, { on := 8, ground := Go.Ground.phase }, { on := 9, ground := Go.Ground.phase }, { on := 10, ground := Go.Ground.phase }, { on := 11, ground := Go.Ground.phase }], guard := none }, { dst := some 49, op := Go.Op.fieldAddr 49 (Go.Operand.tmp 48) 1, type := 0, pos := "disk.go:105", after := #[{ on := 12, ground := Go.Ground.data }, { on := 0, ground := Go.Ground.phase }, { on := 1, ground := Go.Ground.phase }, { on := 2, ground := Go.Ground.phase }, { on := 3, ground := Go.Ground.phase }, { on := 4, ground := Go.Ground.phase }, { on := 5, ground := Go.Ground.phase }, { on := 6, ground := Go.Ground.phase }, { on := 7, ground := Go.Ground.phase }, { on := 8, ground := Go.Ground.phase }, { on := 9, ground := Go.Ground.phase }, { on := 10, ground := Go.Ground.phase }, { on := 11, ground := Go.Ground.phase }], guard := none }, { dst := none, op := Go.Op.store 45 (Go.Operand.tmp 49) (Go.Operand.tmp 47), type := 0, pos := "disk.go:105", after := #[{ on := 13, ground := Go.Ground.data }, { on := 11, ground := Go.Ground.data }, { on := 11, ground := Go.Ground.chain }, { on := 0, ground := Go.Ground.phase }, { on := 1, ground := Go.Ground.phase }, { on := 2, ground := Go.Ground.phase }, { on := 3, ground := Go.Ground.phase }, { on := 4, ground := Go.Ground.phase }, { on := 5, ground := Go.Ground.phase }, { on := 6, ground := Go.Ground.phase }, { on := 7, ground := Go.Ground.phase }, { on := 8, ground := Go.Ground.phase }, { on := 9, ground := Go.Ground.phase }, { on := 10, ground := Go.Ground.phase }, { on := 11, ground := Go.Ground.phase }], guard := none }] true).wp Try.prog Q { tmps := #[.pointer (some ⟨g, 0, none⟩), .int .i64 (q : Int), .slice (some adb) 64 cc, u3, u4, u5, u6, u7, u8, u9, u10, u11, u12, u13, u14, u15, u16, u17, u18, u19, u20, u21, u22, u23, u24, u25, u26, u27, u28, u29, u30, u31, u32, u33, u34, u35, u36, u37, u38, u39, u40, u41, u42, u43, u44, u45, u46, u47, u48, u49, u50, u51, u52, u53, u54, u55, u56, u57, u58, u59, u60, u61, u62], defers := [] } w := by
  obtain ⟨h0, h1, h2, h3, h4, h5, hf⟩ := h.db.cells
  obtain ⟨z, zs, zi⟩ := clW_info
  obtain ⟨i0, i1, i2, i3, i4⟩ := info_parts' zi
  have ZS := Lib.hid zs
  have I1 := Lib.hid i1
  have I2 := Lib.hid i2
  have I3 := Lib.hid i3
  have I4 := Lib.hid i4
  have HBC := Lib.hid hbc
  have HBL := Lib.hid hb
  have HOW := Lib.hid h.wt
  have HWL := Lib.hid hlen
  have hBS : B ≤ w.heap.size := by have := h.lt g (.inl rfl); have := h.base; omega
  have HBS := Lib.hid hBS
  have hg : g < w.heap.size := h.lt g (.inl rfl)
  have hne : some g ≠ (Value.slice aw D.waits.length cw).ownBlock := fun e => (h.ne g).2.1 e.symm rfl
  have hall : ∀ o : Obj, w.drew.cell? ⟨g, 1, none⟩ = some (.slice aw D.waits.length cw) → (w.drew.alloc o).cell? ⟨g, 1, none⟩ = some (.slice aw D.waits.length cw) := fun o hc => (World.cell?_of_block (Below.heap_alloc _ _ _ hg)).trans hc
  have HALL := Lib.hid hall
  have hgrw : ∀ (o : Obj) (w3 : World), (w.drew.alloc o).cell? ⟨g, 1, none⟩ = some (.slice aw D.waits.length cw) → (w.drew.alloc o).grownBy w3 (Value.slice aw D.waits.length cw).ownBlock → w3.cell? ⟨g, 1, none⟩ = some (.slice aw D.waits.length cw) := fun o w3 hc hgr => hgr.cell hc hne
  have HGR := Lib.hid hgrw
  have HQ := Lib.hid hQ
  have HG := Lib.hid hg
  have HN := Lib.hid hne
  have HDB := Lib.hid h.db
  clear zs zi i1 i2 i3 i4 hbc hb hlen hBS hall hgrw hQ h hg hne
  refine start_ (n := 15) (S := fun w' => w'.cell? ⟨g, 1, none⟩ = some (.slice aw D.waits.length cw)) (ds := [14]) #[false, false, false, false, false, false, false, false, false, false, false, false, false, false, false] (by kernel_rfl) rfl rfl (h1) (fun hHeld => ?_)
  refine pure_ (i := 0) (N := some 36) (v := ?_) (a' := ?_) #[true, false, false, false, false, false, false, false, false, false, false, false, false, false, false] rfl rfl (by kernel_rfl) (fun _ _ _ h => (hP _ _ _ h).elim) (Or.inl ⟨by rfl, ?_⟩) ?_ ?_
  rotate_left
  · intro w'
    go_simp
    with_reducible rfl
  rotate_left
  · simp only [Act.put, List.setIfInBounds_toArray, List.set_cons_zero, List.set_cons_succ, i64_w, i32_w]
    rfl
  refine pure_ (i := 1) (N := some 37) (v := ?_) (a' := ?_) #[true, true, false, false, false, false, false, false, false, false, false, false, false, false, false] rfl rfl (by kernel_rfl) (fun _ _ _ h => (hP _ _ _ h).elim) (Or.inl ⟨by rfl, ?_⟩) ?_ ?_
  rotate_left
  · intro w'
    go_simp
    with_reducible rfl
  rotate_left
  · simp only [Act.put, List.setIfInBounds_toArray, List.set_cons_zero, List.set_cons_succ, i64_w, i32_w]
    rfl
  refine pure_ (i := 2) (N := some 38) (v := ?_) (a' := ?_) #[true, true, true, false, false, false, false, false, false, false, false, false, false, false, false] rfl rfl (by kernel_rfl) (fun _ _ _ h => (hP _ _ _ h).elim) (Or.inl ⟨by rfl, ?_⟩) ?_ ?_
  rotate_left
  · intro w'
    go_simp
    with_reducible rfl
  rotate_left
  · simp only [Act.put, List.setIfInBounds_toArray, List.set_cons_zero, List.set_cons_succ, i64_w, i32_w]
    rfl
  refine pure_ (i := 3) (N := some 39) (v := ?_) (a' := ?_) #[true, true, true, true, false, false, false, false, false, false, false, false, false, false, false] rfl rfl (by kernel_rfl) (fun _ _ _ h => (hP _ _ _ h).elim) (Or.inl ⟨by rfl, ?_⟩) ?_ ?_
  rotate_left
  · intro w'
    go_simp
    with_reducible rfl
  rotate_left
  · simp only [Act.put, List.setIfInBounds_toArray, List.set_cons_zero, List.set_cons_succ, i64_w, i32_w]
    rfl
  refine pure_ (i := 5) (N := some 41) (v := ?_) (a' := ?_) #[true, true, true, true, false, true, false, false, false, false, false, false, false, false, false] rfl rfl (by kernel_rfl) (fun _ _ _ h => (hP _ _ _ h).elim) (Or.inl ⟨by rfl, ?_⟩) ?_ ?_
  rotate_left
  · intro w'
    go_simp
    with_reducible rfl
  rotate_left
  · simp only [Act.put, List.setIfInBounds_toArray, List.set_cons_zero, List.set_cons_succ, i64_w, i32_w]
    rfl
  refine pure_ (i := 6) (N := some 42) (v := ?_) (a' := ?_) #[true, true, true, true, false, true, true, false, false, false, false, false, false, false, false] rfl rfl (by kernel_rfl) (fun _ _ _ h => (hP _ _ _ h).elim) (Or.inl ⟨by rfl, ?_⟩) ?_ ?_
  rotate_left
  · intro w'
    go_simp
    with_reducible rfl
  rotate_left
  · simp only [Act.put, List.setIfInBounds_toArray, List.set_cons_zero, List.set_cons_succ, i64_w, i32_w]
    rfl
  refine take_ (i := 4) (N := some 40) (v := ?_) (a' := ?_) #[true, true, true, true, true, true, true, false, false, false, false, false, false, false, false] rfl rfl (by kernel_rfl) (fun _ _ _ h => (hP _ _ _ h).elim) (Or.inl ⟨by rfl, ?_⟩) hHeld ?_ ?_
  rotate_left
  · intro w' s0
    go_simp
    with_reducible rfl
  rotate_left
  · simp only [Act.put, List.setIfInBounds_toArray, List.set_cons_zero, List.set_cons_succ, i64_w, i32_w]
    rfl
  refine one_ (i := 7) (N := some 43) #[true, true, true, true, true, true, true, true, false, false, false, false, false, false, false] rfl rfl (by kernel_rfl) (by decide) (fun K hK => ?_)
  rw [if_pos (by rfl)]
  refine wp_arr51 (.tmp 42) (by rfl) adb 64 cc (by rfl) (Nat.le_refl _) ?_
  refine hK.out _ _ (hHeld) (fun hHeld => ?_)
  clear hK K
  refine norm_ (a' := ?_) ?_ ?_
  rotate_left
  · show Act.put _ (some 43) _ = _
    simp only [Act.put, List.setIfInBounds_toArray, List.set_cons_zero, List.set_cons_succ, i64_w, i32_w]
    rfl
  refine one_ (i := 8) (N := some 44) #[true, true, true, true, true, true, true, true, true, false, false, false, false, false, false] rfl rfl (by kernel_rfl) (by decide) (fun K hK => ?_)
  rw [if_pos (by rfl)]
  refine wp_load_agg 51 (.tmp 43) (by rfl) adb (by rfl) (sec b) _ HBC.out Try.underlying51 rfl (by rw [i51, sec_length, HBL.out]) ?_
  refine hK.out _ _ (hHeld) (fun hHeld => ?_)
  clear hK K
  refine norm_ (a' := ?_) ?_ ?_
  rotate_left
  · show Act.put _ (some 44) _ = _
    simp only [Act.put, List.setIfInBounds_toArray, List.set_cons_zero, List.set_cons_succ, i64_w, i32_w]
    rfl
  refine one_ (i := 9) (N := some 45) #[true, true, true, true, true, true, true, true, true, true, false, false, false, false, false] rfl rfl (by kernel_rfl) (by decide) (fun K hK => ?_)
  rw [if_pos (by rfl)]
  refine wp_build53 (.tmp 41) (.tmp 44) (by rfl) q b HBL.out (by rfl) (by rfl) ?_
  refine hK.out _ _ (hHeld) (fun hHeld => ?_)
  clear hK K
  refine norm_ (a' := ?_) ?_ ?_
  rotate_left
  · show Act.put _ (some 45) _ = _
    simp only [Act.put, List.setIfInBounds_toArray, List.set_cons_zero, List.set_cons_succ, i64_w, i32_w]
    rfl
  refine one_ (i := 10) (N := some 46) #[true, true, true, true, true, true, true, true, true, true, true, false, false, false, false] rfl rfl (by kernel_rfl) (by decide) (fun K hK => ?_)
  rw [if_pos (by rfl)]
  refine wp_bs45 (.tmp 45) (by rfl) (wrC (q, b)) (wrC_length _ HBL.out) (by rfl) ?_
  refine hK.out _ _ (HALL.out _ hHeld) (fun hHeld => ?_)
  clear hK K
  refine norm_ (a' := ?_) ?_ ?_
  rotate_left
  · show Act.put _ (some 46) _ = _
    simp only [Act.put, List.setIfInBounds_toArray, List.set_cons_zero, List.set_cons_succ, i64_w, i32_w]
    rfl
  refine one_ (i := 11) (N := some 47) #[true, true, true, true, true, true, true, true, true, true, true, true, false, false, false] rfl rfl (by kernel_rfl) (by decide) (fun K hK => ?_)
  rw [if_pos (by rfl)]
  refine wp_append_at _ (.tmp 40) (.tmp 46) 45 (by rfl) B 53 i0 z 65 72 Try.underlying45 I1.out I2.out I3.out I4.out ZS.out (by decide) (.slice aw D.waits.length cw) D.waits.length (wrsC D.waits) (by rfl) (HOW.out.drew.alloc _) ⟨w.heap.size, 0, none⟩ 1 1 (wrC (q, b)) (by rfl) (by rw [wrC_length _ HBL.out]) (cells_new w.drew _ _) (wrC_one _) (by have := HWL.out; simp only [maxLen]; omega) (by have := HWL.out; omega) (by rw [World.size_alloc]; exact Nat.le_succ_of_le HBS.out) ?_
  intro v1 w3 hown hgr hat
  obtain ⟨A1, c1, rfl⟩ := own_form hown
  have hf3 : w3.frozen? ⟨g, 1, none⟩ = false := by
    have hh : w3.heap[g]? = some (.cells #[sv, .slice aw D.waits.length cw, .int .i64 D.room, .bool D.down, .int .i64 D.steps, cv] 49 (0, 0)) := by
      rw [hgr.block g (by rw [World.size_alloc]; exact Nat.lt_succ_of_lt HG.out) HN.out, Below.heap_alloc w.drew _ _ HG.out]; exact HDB.out
    exact frozen_of_row w3 g 1 _ 49 hh
  have HO3 := Lib.hid hown
  have HA3 := Lib.hid hat
  have HG3 := Lib.hid hgr
  clear hown hat
  refine hK.out _ _ (HGR.out _ _ hHeld hgr) (fun hHeld => ?_)
  clear hK K
  refine norm_ (a' := ?_) ?_ ?_
  rotate_left
  · show Act.put _ (some 47) _ = _
    simp only [Act.put, List.setIfInBounds_toArray, List.set_cons_zero, List.set_cons_succ, i64_w, i32_w]
    rfl
  refine pure_ (i := 12) (N := some 48) (v := ?_) (a' := ?_) #[true, true, true, true, true, true, true, true, true, true, true, true, true, false, false] rfl rfl (by kernel_rfl) (fun _ _ _ h => (hP _ _ _ h).elim) (Or.inl ⟨by rfl, ?_⟩) ?_ ?_
  rotate_left
  · intro w'
    go_simp
    with_reducible rfl
  rotate_left
  · simp only [Act.put, List.setIfInBounds_toArray, List.set_cons_zero, List.set_cons_succ, i64_w, i32_w]
    rfl
  refine pure_ (i := 13) (N := some 49) (v := ?_) (a' := ?_) #[true, true, true, true, true, true, true, true, true, true, true, true, true, true, false] rfl rfl (by kernel_rfl) (fun _ _ _ h => (hP _ _ _ h).elim) (Or.inl ⟨by rfl, ?_⟩) ?_ ?_
  rotate_left
  · intro w'
    go_simp
    with_reducible rfl
  rotate_left
  · simp only [Act.put, List.setIfInBounds_toArray, List.set_cons_zero, List.set_cons_succ, i64_w, i32_w]
    rfl
  refine last_ (i := 14) (N := none) #[true, true, true, true, true, true, true, true, true, true, true, true, true, true, true] rfl rfl (by kernel_rfl) (by decide) (fun K hK => ?_)
  refine skip_ (w1 := ?_) (by rfl) rfl ?_ ?_
  rotate_left
  · go_simp
    rfl
  refine hK.out _ _ ?_
  clear hK K
  refine done_ (by kernel_rfl) ?_

  exact HQ.out A1 c1 w3 _ _ _ _ _ _ _ _ _ _ _ _ _ _ HO3.out HG3.out HA3.out
end Go.Proofs.Ytbimbgefclohlaa
