/- One part of the proof that postmarktop.TopDisked returns true for every input and that its input reads behind the call as it read before (theorem topDisked_holds in YtbimbgefclohlaaC31). The laws of this text have their conditions in their own statements; the theorem that is claimed has none. -/
import Derived.Test.YtbimbgefclohlaaC23
set_option linter.unusedVariables false
set_option linter.unusedSimpArgs false
namespace Go.Proofs.Ytbimbgefclohlaa
open Go.RowKit Go.Proofs.YtbimbgefclohlaaW.PrintWords Go.Proofs.YtbimbgefclohlaaW.PrintLast

set_option maxHeartbeats 8000000 in
set_option maxRecDepth 100000 in
theorem disked_bad (w : World) (n room : Int) (A : Option Addr) (m c : Nat) (cp : Int) (h : n < 1 ∨ 64 < n ∨ room < 0 ∨ 10000 < room) :
    Calls Try.prog 5 #[.int .i64 n, .int .i64 room, .slice A m c, .int .u8 cp] w fun e w' => e = .returned (.bool true) ∧ Below w.heap.size w w' := by
  have HN := Lib.hid (new_bad w n room h)
  obtain ⟨wa, hwa⟩ : ∃ wa, w.alloc (.cells (sec (fillK 0 0)).toArray 5) = wa := ⟨_, rfl⟩
  have HWN := Lib.hid (write_nil (w.alloc (.cells (sec (fillK 0 0)).toArray 5)) 0 (some ⟨w.heap.size, 0, none⟩) 64 64)
  have HBN := Lib.hid (boot_nil (w.alloc (.cells (sec (fillK 0 0)).toArray 5)))
  have HUN := Lib.hid (up_nil (w.alloc (.cells (sec (fillK 0 0)).toArray 5)))
  have HAN := Lib.hid (waits_nil (w.alloc (.cells (sec (fillK 0 0)).toArray 5)))
  have HRN := Lib.hid (room_nil (w.alloc (.cells (sec (fillK 0 0)).toArray 5)))
  have HCN := Lib.hid (copy_nil (w.alloc (.cells (sec (fillK 0 0)).toArray 5)))
  clear hwa
  by_cases h1 : n < 1
  · have h1' : decide (n < 1) = true := by simpa using h1
    clear h
    go_enter Try.func5, Try.ntmps5
    go_wp2_with fail
    refine HN.out.mono ?_
    rintro e w1 ⟨rfl, rfl⟩
    have hmk := make64 w 0
    go_wp2_with fail
    refine HWN.out.mono ?_
    rintro e w1 ⟨rfl, rfl⟩
    go_wp2_with fail
    refine HBN.out.mono ?_
    rintro e w1 ⟨rfl, rfl⟩
    go_wp2_with fail
    refine HUN.out.mono ?_
    rintro e w1 ⟨rfl, rfl⟩
    go_wp2_with fail
    refine HAN.out.mono ?_
    rintro e w1 ⟨rfl, rfl⟩
    go_wp2_with fail
    refine HRN.out.mono ?_
    rintro e w1 ⟨rfl, rfl⟩
    go_wp2_with fail
    refine HCN.out.mono ?_
    rintro e w1 ⟨rfl, rfl⟩
    go_wp2_with fail
    go_ret
    exact ⟨rfl, (Below.refl _ _).alloc (Nat.le_refl _) _⟩
  · have h1' : decide (n < 1) = false := by simpa using h1
    by_cases h2 : 64 < n
    · have h2' : decide (64 < n) = true := by simpa using h2
      clear h
      go_enter Try.func5, Try.ntmps5
      go_wp2_with fail
      refine HN.out.mono ?_
      rintro e w1 ⟨rfl, rfl⟩
      have hmk := make64 w 0
      go_wp2_with fail
      refine HWN.out.mono ?_
      rintro e w1 ⟨rfl, rfl⟩
      go_wp2_with fail
      refine HBN.out.mono ?_
      rintro e w1 ⟨rfl, rfl⟩
      go_wp2_with fail
      refine HUN.out.mono ?_
      rintro e w1 ⟨rfl, rfl⟩
      go_wp2_with fail
      refine HAN.out.mono ?_
      rintro e w1 ⟨rfl, rfl⟩
      go_wp2_with fail
      refine HRN.out.mono ?_
      rintro e w1 ⟨rfl, rfl⟩
      go_wp2_with fail
      refine HCN.out.mono ?_
      rintro e w1 ⟨rfl, rfl⟩
      go_wp2_with fail
      go_ret
      exact ⟨rfl, (Below.refl _ _).alloc (Nat.le_refl _) _⟩
    · have h2' : decide (64 < n) = false := by simpa using h2
      by_cases h3 : room < 0
      · have h3' : decide (room < 0) = true := by simpa using h3
        clear h
        go_enter Try.func5, Try.ntmps5
        go_wp2_with fail
        refine HN.out.mono ?_
        rintro e w1 ⟨rfl, rfl⟩
        have hmk := make64 w 0
        go_wp2_with fail
        refine HWN.out.mono ?_
        rintro e w1 ⟨rfl, rfl⟩
        go_wp2_with fail
        refine HBN.out.mono ?_
        rintro e w1 ⟨rfl, rfl⟩
        go_wp2_with fail
        refine HUN.out.mono ?_
        rintro e w1 ⟨rfl, rfl⟩
        go_wp2_with fail
        refine HAN.out.mono ?_
        rintro e w1 ⟨rfl, rfl⟩
        go_wp2_with fail
        refine HRN.out.mono ?_
        rintro e w1 ⟨rfl, rfl⟩
        go_wp2_with fail
        refine HCN.out.mono ?_
        rintro e w1 ⟨rfl, rfl⟩
        go_wp2_with fail
        go_ret
        exact ⟨rfl, (Below.refl _ _).alloc (Nat.le_refl _) _⟩
      · have h3' : decide (room < 0) = false := by simpa using h3
        have h4 : 10000 < room := by omega
        have h4' : decide (10000 < room) = true := by simpa using h4
        clear h
        go_enter Try.func5, Try.ntmps5
        go_wp2_with fail
        refine HN.out.mono ?_
        rintro e w1 ⟨rfl, rfl⟩
        have hmk := make64 w 0
        go_wp2_with fail
        refine HWN.out.mono ?_
        rintro e w1 ⟨rfl, rfl⟩
        go_wp2_with fail
        refine HBN.out.mono ?_
        rintro e w1 ⟨rfl, rfl⟩
        go_wp2_with fail
        refine HUN.out.mono ?_
        rintro e w1 ⟨rfl, rfl⟩
        go_wp2_with fail
        refine HAN.out.mono ?_
        rintro e w1 ⟨rfl, rfl⟩
        go_wp2_with fail
        refine HRN.out.mono ?_
        rintro e w1 ⟨rfl, rfl⟩
        go_wp2_with fail
        refine HCN.out.mono ?_
        rintro e w1 ⟨rfl, rfl⟩
        go_wp2_with fail
        go_ret
        exact ⟨rfl, (Below.refl _ _).alloc (Nat.le_refl _) _⟩

theorem str_made (w : World) (bb : Nat) {full : List Int} (hr : w.heap[bb]? = some (.cells (sec full).toArray 5 (0, 0))) (hl : full.length = 64 := by exact fillK_length _ _) : (convert 25 9 (.slice (some ⟨bb, 0, none⟩) 64 64)).run Try.prog w = .ok (.string (strOfNums full)) w := by
  refine str_own (base := 0) (n := 64) ⟨by rw [sec_length, hl], .inr ⟨bb, 64, _, rfl, Nat.zero_le _, hr, Nat.le_refl _, by decide, by rw [List.size_toArray, sec_length, hl], ?_⟩⟩
  rw [List.toList_toArray, List.take_of_length_le (by rw [sec_length, hl]; decide)]
theorem wp_mk64 {o : Oper} {a : Act} {w : World} {K : Act → World → Prop} {Q : Exit → Act → World → Prop} (x y : Operand) (ho : o.op = .makeSlice 25 x y) (hx : a.eval x = .int .i64 64) (hy : a.eval y = .int .i64 64)
    (h : K (a.put o.dst (.slice (some ⟨w.heap.size, 0, none⟩) 64 64)) (w.alloc (.cells (sec (fillK 0 0)).toArray 5))) : o.wp Try.prog a w K Q := by
  unfold Oper.wp execOp
  simp only [ho, hx, hy, Sem.run_bind, make64 w 0, Result.andThen_ok, Sem.run_pure]
  exact h

set_option maxRecDepth 100000 in
set_option maxHeartbeats 8000000 in
theorem r7x (w : World) (B gx : Nat) (As : Option Addr) (k cs : Nat) (xs : List Value) (cellsx : Array Value) (Q : Exit → Act → World → Prop) (hP : ∀ c a w, ¬ Q (.panic c) a w)
    (h0 : w.drew.cell? ⟨gx, 0, none⟩ = some (.slice As k cs)) (hm : k ≤ 10000) (hx : w.heap[gx]? = some (.cells cellsx 40 (0, 0))) (hx0 : cellsx[0]? = some (.slice As k cs)) (hng : some gx ≠ (Value.slice As k cs).ownBlock) (how : w.ownsRow B 9 1 (.slice As k cs) k xs) (hBS : B ≤ w.heap.size)
    (u0 u1 u2 u3 u4 u5 u6 u7 u8 u9 u10 u12 u13 u14 u15 u16 u17 u18 u19 u20 u21 u22 u23 u24 u25 u26 u27 u28 u29 u30 u31 u32 u33 u34 u35 u36 u37 u38 u39 u40 u41 u42 u43 u44 u45 u46 u47 u48 u49 u50 u51 u52 u53 u54 u55 u56 u57 u58 u59 u60 u61 u62 u63 u64 u65 u66 u67 u68 u69 u70 u71 u72 u73 u74 u75 u76 u77 u78 u79 u80 u81 u82 u83 u84 u85 u86 u87 u88 u89 u90 u91 u92 u93 u94 u95 u96 u97 u98 u99 u100 u101 u102 u103 u104 u105 u106 u107 u108 u109 u110 u111 u112 u113 u114 u115 u116 u117 u118 u119 u120 u121 u122 u123 u124 u125 u126 u127 u128 u129 u130 u131 u132 u133 u134 u135 u136 u137 u138 u139 u140 u141 u142 u143 u144 u145 u146 u147 u148 u149 u150 u151 u152 u153 u154 u155 u156 u157 u158 u159 u160 : Value)
    (hQ : ∀ x75 x76 x77 x78 x79 x80 x81 x82 x83 x84 x85 A1 c1 w3, w3.ownsRow B 9 1 (.slice A1 (k + 1) c1) (k + 1) (xs ++ [strV (fillK 0 0)]) → ((w.drew.alloc (.cells (sec (fillK 0 0)).toArray 5)).alloc (.cells #[strV (fillK 0 0)] 9)).grownBy w3 (Value.slice As k cs).ownBlock → ((Value.slice A1 (k + 1) c1).ownBlock = (Value.slice As k cs).ownBlock ∨ (Value.slice A1 (k + 1) c1).ownBlock = some ((w.drew.alloc (.cells (sec (fillK 0 0)).toArray 5)).alloc (.cells #[strV (fillK 0 0)] 9)).heap.size) → Q .normal { tmps := #[u0, u1, u2, u3, u4, u5, u6, u7, u8, u9, u10, .pointer (some ⟨gx, 0, none⟩), u12, u13, u14, u15, u16, u17, u18, u19, u20, u21, u22, u23, u24, u25, u26, u27, u28, u29, u30, u31, u32, u33, u34, u35, u36, u37, u38, u39, u40, u41, u42, u43, u44, u45, u46, u47, u48, u49, u50, u51, u52, u53, u54, u55, u56, u57, u58, u59, u60, u61, u62, u63, u64, u65, u66, u67, u68, u69, u70, u71, u72, u73, u74, x75, x76, x77, x78, x79, x80, x81, x82, x83, x84, x85, u86, u87, u88, u89, u90, u91, u92, u93, u94, u95, u96, u97, u98, u99, u100, u101, u102, u103, u104, u105, u106, u107, u108, u109, u110, u111, u112, u113, u114, u115, u116, u117, u118, u119, u120, u121, u122, u123, u124, u125, u126, u127, u128, u129, u130, u131, u132, u133, u134, u135, u136, u137, u138, u139, u140, u141, u142, u143, u144, u145, u146, u147, u148, u149, u150, u151, u152, u153, u154, u155, u156, u157, u158, u159, u160], defers := [] } (w3.setCell ⟨gx, 0, none⟩ (.slice A1 (k + 1) c1))) :
    (Code.region 7 #[{ dst := some 75, op := Go.Op.move (Go.Operand.tmp 11), type := 36, pos := "top17m.go:162", after := #[], guard := none }, { dst := some 76, op := Go.Op.move (Go.Operand.tmp 11), type := 36, pos := "top17m.go:162", after := #[], guard := none }, { dst := some 77, op := Go.Op.nilCheck (Go.Operand.tmp 76), type := 0, pos := "top17m.go:162", after := #[{ on := 1, ground := Go.Ground.data }], guard := none }, { dst := some 78, op := Go.Op.fieldAddr 40 (Go.Operand.tmp 77) 0, type := 0, pos := "top17m.go:162", after := #[{ on := 2, ground := Go.Ground.data }], guard := none }, { dst := some 79, op := Go.Op.load 37 (Go.Operand.tmp 78), type := 37, pos := "top17m.go:162", after := #[{ on := 3, ground := Go.Ground.data }], guard := none }, { dst := some 80, op := Go.Op.makeSlice 25 (Go.Operand.const (Go.Value.int Go.IntKind.i64 64)) (Go.Operand.const (Go.Value.int Go.IntKind.i64 64)), type := 25, pos := "top17m.go:162", after := #[], guard := none }, { dst := some 81, op := Go.Op.convert 25 9 (Go.Operand.tmp 80), type := 9, pos := "top17m.go:162", after := #[{ on := 5, ground := Go.Ground.data }], guard := none }, { dst := some 82, op := Go.Op.buildSlice 37 1 #[(0, Go.Operand.tmp 81)], type := 37, pos := "top17m.go:162", after := #[{ on := 6, ground := Go.Ground.data }], guard := none }, { dst := some 83, op := Go.Op.call { callee := Go.Callee.builtin Go.Builtin.append, args := #[Go.Operand.tmp 79, Go.Operand.tmp 82], argTypes := #[37, 37] }, type := 37, pos := "top17m.go:162", after := #[{ on := 4, ground := Go.Ground.data }, { on := 7, ground := Go.Ground.data }], guard := none }, { dst := some 84, op := Go.Op.nilCheck (Go.Operand.tmp 75), type := 0, pos := "top17m.go:162", after := #[{ on := 0, ground := Go.Ground.data }, { on := 0, ground := Go.Ground.phase }, { on := 1, ground := Go.Ground.phase }, { on := 2, ground := Go.Ground.phase }, { on := 3, ground := Go.Ground.phase }, { on := 4, ground := Go.Ground.phase }, { on := 5, ground := Go.Ground.phase }, { on := 6, ground := Go.Ground.phase }, { on := 7, ground := Go.Ground.phase }, { on := 8, ground := Go.Ground.phase }], guard := none }, { dst := some 85, op := Go.Op.fieldAddr 40 (Go.Operand.tmp 84) 0, type := 0, pos := "top17m.go:162", after := #[{ on := 9, ground := Go.Ground.data }, { on := 0, ground := Go.Ground.phase }, { on := 1, ground := Go.Ground.phase }, { on := 2, ground := Go.Ground.phase }, { on := 3, ground := Go.Ground.phase }, { on := 4, ground := Go.Ground.phase }, { on := 5, ground := Go.Ground.phase }, { on := 6, ground := Go.Ground.phase }, { on := 7, ground := Go.Ground.phase }, { on := 8, ground := Go.Ground.phase }], guard := none }, { dst := none, op := Go.Op.store 37 (Go.Operand.tmp 85) (Go.Operand.tmp 83), type := 0, pos := "top17m.go:162", after := #[{ on := 10, ground := Go.Ground.data }, { on := 8, ground := Go.Ground.data }, { on := 8, ground := Go.Ground.chain }, { on := 0, ground := Go.Ground.phase }, { on := 1, ground := Go.Ground.phase }, { on := 2, ground := Go.Ground.phase }, { on := 3, ground := Go.Ground.phase }, { on := 4, ground := Go.Ground.phase }, { on := 5, ground := Go.Ground.phase }, { on := 6, ground := Go.Ground.phase }, { on := 7, ground := Go.Ground.phase }, { on := 8, ground := Go.Ground.phase }], guard := none }] true).wp Try.prog Q { tmps := #[u0, u1, u2, u3, u4, u5, u6, u7, u8, u9, u10, .pointer (some ⟨gx, 0, none⟩), u12, u13, u14, u15, u16, u17, u18, u19, u20, u21, u22, u23, u24, u25, u26, u27, u28, u29, u30, u31, u32, u33, u34, u35, u36, u37, u38, u39, u40, u41, u42, u43, u44, u45, u46, u47, u48, u49, u50, u51, u52, u53, u54, u55, u56, u57, u58, u59, u60, u61, u62, u63, u64, u65, u66, u67, u68, u69, u70, u71, u72, u73, u74, u75, u76, u77, u78, u79, u80, u81, u82, u83, u84, u85, u86, u87, u88, u89, u90, u91, u92, u93, u94, u95, u96, u97, u98, u99, u100, u101, u102, u103, u104, u105, u106, u107, u108, u109, u110, u111, u112, u113, u114, u115, u116, u117, u118, u119, u120, u121, u122, u123, u124, u125, u126, u127, u128, u129, u130, u131, u132, u133, u134, u135, u136, u137, u138, u139, u140, u141, u142, u143, u144, u145, u146, u147, u148, u149, u150, u151, u152, u153, u154, u155, u156, u157, u158, u159, u160], defers := [] } w := by
  obtain ⟨za, zsa, zia⟩ := info9
  obtain ⟨ia, ia1, ia2, ia3, ia4⟩ := info_parts' zia
  have Za := Lib.hid zsa
  have Ia1 := Lib.hid ia1
  have Ia2 := Lib.hid ia2
  have Ia3 := Lib.hid ia3
  have Ia4 := Lib.hid ia4
  have hg : gx < w.heap.size := (Array.getElem?_eq_some_iff.1 hx).1
  have hfr : ∀ w3, ((w.drew.alloc (.cells (sec (fillK 0 0)).toArray 5)).alloc (.cells #[strV (fillK 0 0)] 9)).grownBy w3 (Value.slice As k cs).ownBlock → w3.frozen? ⟨gx, 0, none⟩ = false ∧ w3.cell? ⟨gx, 0, none⟩ = some (.slice As k cs) := fun w3 hgr => by
    have hh : w3.heap[gx]? = some (.cells cellsx 40 (0, 0)) := by
      rw [hgr.block gx (by rw [World.size_alloc, World.size_alloc]; exact Nat.lt_succ_of_lt (Nat.lt_succ_of_lt hg)) hng, Below.heap_alloc _ _ _ (by rw [World.size_alloc]; exact Nat.lt_succ_of_lt hg), Below.heap_alloc w.drew _ _ hg]; exact hx
    exact ⟨frozen_of_row w3 gx 0 _ 40 hh, by rw [cell_of_row w3 gx 0 _ 40 (0, 0) hh]; exact hx0⟩
  have hka : w.drew.cell? ⟨gx, 0, none⟩ = some (.slice As k cs) → (w.drew.alloc (.cells (sec (fillK 0 0)).toArray 5)).cell? ⟨gx, 0, none⟩ = some (.slice As k cs) := fun hc => (World.cell?_of_block (Below.heap_alloc w.drew _ gx hg)).trans hc
  have hkb : (w.drew.alloc (.cells (sec (fillK 0 0)).toArray 5)).cell? ⟨gx, 0, none⟩ = some (.slice As k cs) → ((w.drew.alloc (.cells (sec (fillK 0 0)).toArray 5)).alloc (.cells #[strV (fillK 0 0)] 9)).cell? ⟨gx, 0, none⟩ = some (.slice As k cs) := fun hc => (World.cell?_of_block (Below.heap_alloc _ _ gx (by rw [World.size_alloc]; exact Nat.lt_succ_of_lt hg))).trans hc
  have HKA := Lib.hid hka
  have HKB := Lib.hid hkb
  have HFR := Lib.hid hfr
  have HQ := Lib.hid hQ
  have HM := Lib.hid hm
  have HOW := Lib.hid how
  have HBS := Lib.hid hBS
  clear hka hkb zsa zia ia1 ia2 ia3 ia4 hg hfr hQ hm how hBS hx hx0 hng
  refine start_ (n := 12) (S := fun w' => w'.cell? ⟨gx, 0, none⟩ = some (.slice As k cs)) (ds := [8, 11]) #[false, false, false, false, false, false, false, false, false, false, false, false] (by kernel_rfl) rfl rfl (h0) (fun hHeld => ?_)
  refine pure_ (i := 0) (N := some 75) (v := ?_) (a' := ?_) #[true, false, false, false, false, false, false, false, false, false, false, false] rfl rfl (by kernel_rfl) (fun _ _ _ h => (hP _ _ _ h).elim) (Or.inl ⟨by rfl, ?_⟩) ?_ ?_
  rotate_left
  · intro w'
    go_simp
    with_reducible rfl
  rotate_left
  · simp only [Act.put, List.setIfInBounds_toArray, List.set_cons_zero, List.set_cons_succ, i64_w, i32_w]
    rfl
  refine pure_ (i := 1) (N := some 76) (v := ?_) (a' := ?_) #[true, true, false, false, false, false, false, false, false, false, false, false] rfl rfl (by kernel_rfl) (fun _ _ _ h => (hP _ _ _ h).elim) (Or.inl ⟨by rfl, ?_⟩) ?_ ?_
  rotate_left
  · intro w'
    go_simp
    with_reducible rfl
  rotate_left
  · simp only [Act.put, List.setIfInBounds_toArray, List.set_cons_zero, List.set_cons_succ, i64_w, i32_w]
    rfl
  refine pure_ (i := 2) (N := some 77) (v := ?_) (a' := ?_) #[true, true, true, false, false, false, false, false, false, false, false, false] rfl rfl (by kernel_rfl) (fun _ _ _ h => (hP _ _ _ h).elim) (Or.inl ⟨by rfl, ?_⟩) ?_ ?_
  rotate_left
  · intro w'
    go_simp
    with_reducible rfl
  rotate_left
  · simp only [Act.put, List.setIfInBounds_toArray, List.set_cons_zero, List.set_cons_succ, i64_w, i32_w]
    rfl
  refine pure_ (i := 3) (N := some 78) (v := ?_) (a' := ?_) #[true, true, true, true, false, false, false, false, false, false, false, false] rfl rfl (by kernel_rfl) (fun _ _ _ h => (hP _ _ _ h).elim) (Or.inl ⟨by rfl, ?_⟩) ?_ ?_
  rotate_left
  · intro w'
    go_simp
    with_reducible rfl
  rotate_left
  · simp only [Act.put, List.setIfInBounds_toArray, List.set_cons_zero, List.set_cons_succ, i64_w, i32_w]
    rfl
  refine take_ (i := 4) (N := some 79) (v := ?_) (a' := ?_) #[true, true, true, true, true, false, false, false, false, false, false, false] rfl rfl (by kernel_rfl) (fun _ _ _ h => (hP _ _ _ h).elim) (Or.inl ⟨by rfl, ?_⟩) hHeld ?_ ?_
  rotate_left
  · intro w' s0
    go_simp
    with_reducible rfl
  rotate_left
  · simp only [Act.put, List.setIfInBounds_toArray, List.set_cons_zero, List.set_cons_succ, i64_w, i32_w]
    rfl
  refine one_ (i := 5) (N := some 80) #[true, true, true, true, true, true, false, false, false, false, false, false] rfl rfl (by kernel_rfl) (by decide) (fun K hK => ?_)
  rw [if_pos (by rfl)]
  refine wp_mk64 (.const (.int .i64 64)) (.const (.int .i64 64)) (by rfl) (by rfl) (by rfl) ?_
  refine hK.out _ _ (HKA.out hHeld) (fun hHeld => ?_)
  clear hK K
  refine norm_ (a' := ?_) ?_ ?_
  rotate_left
  · show Act.put _ (some 80) _ = _
    simp only [Act.put, List.setIfInBounds_toArray, List.set_cons_zero, List.set_cons_succ, i64_w, i32_w]
    rfl
  refine one_ (i := 6) (N := some 81) #[true, true, true, true, true, true, true, false, false, false, false, false] rfl rfl (by kernel_rfl) (by decide) (fun K hK => ?_)
  rw [if_pos (by rfl)]
  refine wp_conv 25 9 (.tmp 80) (by rfl) (.slice (some ⟨w.heap.size, 0, none⟩) 64 64) (.string (strOfNums (fillK 0 0))) (by rfl) (str_made _ _ (heap_alloc_new w.drew _)) ?_
  refine hK.out _ _ (hHeld) (fun hHeld => ?_)
  clear hK K
  refine norm_ (a' := ?_) ?_ ?_
  rotate_left
  · show Act.put _ (some 81) _ = _
    simp only [Act.put, List.setIfInBounds_toArray, List.set_cons_zero, List.set_cons_succ, i64_w, i32_w]
    rfl
  refine one_ (i := 7) (N := some 82) #[true, true, true, true, true, true, true, true, false, false, false, false] rfl rfl (by kernel_rfl) (by decide) (fun K hK => ?_)
  refine value_ (w1 := ?_) (v := ?_) (by rfl) rfl ?_ ?_
  rotate_left 2
  · go_simp
    constructor
    · rfl
    · rfl
  refine hK.out _ _ (HKB.out hHeld) (fun hHeld => ?_)
  clear hK K
  refine norm_ (a' := ?_) ?_ ?_
  rotate_left
  · show Act.put _ (some 82) _ = _
    simp only [Act.put, List.setIfInBounds_toArray, List.set_cons_zero, List.set_cons_succ, i64_w, i32_w]
    rfl
  refine last_ (i := 8) (N := some 83) #[true, true, true, true, true, true, true, true, true, false, false, false] rfl rfl (by kernel_rfl) (by decide) (fun K hK => ?_)
  rw [if_pos (by rfl)]
  refine wp_append_at _ (.tmp 79) (.tmp 82) 37 (by rfl) B 9 ia za 1 16 Try.underlying37 Ia1.out Ia2.out Ia3.out Ia4.out Za.out (by decide) (.slice As k cs) k xs (by rfl) (HOW.out.drew.alloc _ |>.alloc _) ⟨w.heap.size + 1, 0, none⟩ 1 1 [strV (fillK 0 0)] (by rfl) (by rfl) (by intro j u hu; have h := cells_new (w.drew.alloc (.cells (sec (fillK 0 0)).toArray 5)) [strV (fillK 0 0)] 9 j u hu; rw [World.size_alloc] at h; exact h) (by intro u hu; rw [List.mem_singleton.1 hu]; rfl) (by have := HM.out; simp only [maxLen]; omega) (by have := HM.out; omega) (by have h := HBS.out; show B ≤ ((w.drew.alloc _).alloc _).heap.size; rw [World.size_alloc, World.size_alloc]; exact Nat.le_succ_of_le (Nat.le_succ_of_le h)) ?_
  intro v1 w3 hown hgr hat
  obtain ⟨A1, c1, rfl⟩ := own_form hown
  obtain ⟨hf0, hs0⟩ := HFR.out w3 hgr
  have HO3 := Lib.hid hown
  have HA3 := Lib.hid hat
  have HG3 := Lib.hid hgr
  clear hown hat hgr
  refine hK.out _ _ ?_
  clear hK K
  refine norm_ (a' := ?_) ?_ ?_
  rotate_left
  · show Act.put _ (some 83) _ = _
    simp only [Act.put, List.setIfInBounds_toArray, List.set_cons_zero, List.set_cons_succ, i64_w, i32_w]
    rfl
  refine pure_ (i := 9) (N := some 84) (v := ?_) (a' := ?_) #[true, true, true, true, true, true, true, true, true, true, false, false] rfl rfl (by kernel_rfl) (fun _ _ _ h => (hP _ _ _ h).elim) (Or.inl ⟨by rfl, ?_⟩) ?_ ?_
  rotate_left
  · intro w'
    go_simp
    with_reducible rfl
  rotate_left
  · simp only [Act.put, List.setIfInBounds_toArray, List.set_cons_zero, List.set_cons_succ, i64_w, i32_w]
    rfl
  refine pure_ (i := 10) (N := some 85) (v := ?_) (a' := ?_) #[true, true, true, true, true, true, true, true, true, true, true, false] rfl rfl (by kernel_rfl) (fun _ _ _ h => (hP _ _ _ h).elim) (Or.inl ⟨by rfl, ?_⟩) ?_ ?_
  rotate_left
  · intro w'
    go_simp
    with_reducible rfl
  rotate_left
  · simp only [Act.put, List.setIfInBounds_toArray, List.set_cons_zero, List.set_cons_succ, i64_w, i32_w]
    rfl
  refine last_ (i := 11) (N := none) #[true, true, true, true, true, true, true, true, true, true, true, true] rfl rfl (by kernel_rfl) (by decide) (fun K hK => ?_)
  refine skip_ (w1 := ?_) (by rfl) rfl ?_ ?_
  rotate_left
  · go_simp
    rfl
  refine hK.out _ _ ?_
  clear hK K
  refine done_ (by kernel_rfl) ?_

  exact HQ.out _ _ _ _ _ _ _ _ _ _ _ A1 c1 w3 HO3.out HG3.out HA3.out

end Go.Proofs.Ytbimbgefclohlaa
