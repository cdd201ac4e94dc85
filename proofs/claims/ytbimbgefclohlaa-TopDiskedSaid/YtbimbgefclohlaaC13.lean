/- One part of the proof that postmarktop.TopDisked returns true for every input and that its input reads behind the call as it read before (theorem topDisked_holds in YtbimbgefclohlaaC31). The laws of this text have their conditions in their own statements; the theorem that is claimed has none. -/
import Derived.Test.YtbimbgefclohlaaC12
set_option linter.unusedVariables false
set_option linter.unusedSimpArgs false
namespace Go.Proofs.Ytbimbgefclohlaa
open Go.RowKit Go.Proofs.YtbimbgefclohlaaW.PrintWords Go.Proofs.YtbimbgefclohlaaW.PrintLast


def fillK (by_ : Int) (k : Nat) : List Int := (List.range 64).map fun i => if i < k then (by_ + i) % 256 else 0
theorem fillK_length (by_ : Int) (k : Nat) : (fillK by_ k).length = 64 := by simp [fillK]
theorem fillK_byte (by_ : Int) (k : Nat) : byteL (fillK by_ k) := by
  intro c hc
  simp only [fillK, List.mem_map] at hc
  obtain ⟨i, _, rfl⟩ := hc
  split <;> omega
theorem fillK_succ (by_ : Int) (k : Nat) (hk : k < 64) : (sec (fillK by_ k)).toArray.setIfInBounds k (.int .u8 ((by_ + k) % 256)) = (sec (fillK by_ (k + 1))).toArray := by
  apply Array.ext'
  rw [Array.toList_setIfInBounds]
  apply List.ext_getElem?
  intro j
  rw [List.getElem?_set]
  simp only [sec, fillK, List.length_map, List.length_range, List.map_map, List.getElem?_map, List.getElem?_range']
  by_cases hj : j < 64
  · simp [hj, List.getElem?_range]
    by_cases e : k = j
    · subst e; simp [hk]
    · simp [e]
      by_cases h1 : j < k
      · simp [h1, show j < k + 1 from by omega]
      · simp [h1, show ¬ j < k + 1 from by omega]
  · simp [hj, List.getElem?_eq_none]
    omega

set_option maxHeartbeats 4000000 in
set_option maxRecDepth 100000 in
theorem fill_loop (w : World) (ba bb : Nat) (by_ : Int) (hby : 0 ≤ by_ ∧ by_ ≤ 255) (hba : ba ≠ bb) (hbl : ba < w.heap.size) (hbb : bb < w.heap.size) (ha : w.cell? ⟨ba, 1, none⟩ = some (.int .u8 by_)) (h0 : w.heap[bb]? = some (.cells (sec (fillK by_ 0)).toArray 5 (0, 0))) (Q : Exit → Act → World → Prop)
    (u0 u1 u2 u3 u4 u6 u7 u9 u10 u11 u12 u13 u14 u15 u16 u17 u18 u19 u20 u21 u22 u23 u24 u25 u26 u29 u30 u31 u32 u33 u34 u35 u36 u37 u38 u39 u40 u41 u42 u43 u44 u45 u46 u47 u48 u49 u50 u51 u52 u53 u54 u55 u56 u57 u58 u59 u60 u61 u62 u63 u64 u65 u66 u67 u68 u69 u70 u71 u72 u73 u74 u75 u76 u77 u78 u79 u80 u81 u82 u83 u84 u85 u86 u87 u88 u89 u90 u91 u92 u93 u94 u95 u96 u97 u98 u99 u100 u101 u102 u103 u104 u105 u106 u107 u108 u109 u110 u111 u112 u113 u114 u115 u116 u117 u118 u119 u120 u121 u122 u123 u124 u125 u126 u127 u128 u129 u130 u131 u132 u133 u134 u135 u136 u137 u138 u139 u140 u141 u142 u143 u144 u145 u146 u147 u148 u149 u150 u151 u152 u153 u154 u155 u156 u157 u158 u159 u160 u161 u162 u163 u164 u165 u166 u167 u168 u169 u170 u171 u172 u173 u174 u175 u176 u177 u178 u179 u180 u181 u182 u183 u184 u185 u186 u187 u188 u189 u190 u191 u192 u193 u194 u195 : Value)
    (hQ : ∀ x9 x28 x29 x30 x31 x32 x33 x34 x35 x36 x37 x38 x39 w', KB w.heap.size bb w w' → w'.heap[bb]? = some (.cells (sec (fillK by_ 64)).toArray 5 (0, 0)) → Q (.exit 1) { tmps := #[u0, u1, u2, u3, u4, .pointer (some ⟨ba, 0, none⟩), u6, u7, .slice (some ⟨bb, 0, none⟩) 64 64, x9, u10, u11, u12, u13, u14, u15, u16, u17, u18, u19, u20, u21, u22, u23, u24, u25, u26, .int .i64 64, x28, x29, x30, x31, x32, x33, x34, x35, x36, x37, x38, x39, u40, u41, u42, u43, u44, u45, u46, u47, u48, u49, u50, u51, u52, u53, u54, u55, u56, u57, u58, u59, u60, u61, u62, u63, u64, u65, u66, u67, u68, u69, u70, u71, u72, u73, u74, u75, u76, u77, u78, u79, u80, u81, u82, u83, u84, u85, u86, u87, u88, u89, u90, u91, u92, u93, u94, u95, u96, u97, u98, u99, u100, u101, u102, u103, u104, u105, u106, u107, u108, u109, u110, u111, u112, u113, u114, u115, u116, u117, u118, u119, u120, u121, u122, u123, u124, u125, u126, u127, u128, u129, u130, u131, u132, u133, u134, u135, u136, u137, u138, u139, u140, u141, u142, u143, u144, u145, u146, u147, u148, u149, u150, u151, u152, u153, u154, u155, u156, u157, u158, u159, u160, u161, u162, u163, u164, u165, u166, u167, u168, u169, u170, u171, u172, u173, u174, u175, u176, u177, u178, u179, u180, u181, u182, u183, u184, u185, u186, u187, u188, u189, u190, u191, u192, u193, u194, u195], defers := [] } w') :
    Code.wp Try.prog (((Go.Code.region 10 #[{ dst := some 29, op := Go.Op.binOp Go.BinOp.lss 3 (Go.Operand.tmp 28) (Go.Operand.tmp 27) 3, type := 0, pos := "top17m.go:75", after := #[], guard := none }] false).seq ((Go.Code.cond (Go.Operand.tmp 29) Go.Code.skip (Go.Code.exit 1)).seq ((Go.Code.block 2 ((Go.Code.region 11 #[{ dst := some 30, op := Go.Op.move (Go.Operand.tmp 28), type := 3, pos := "top17m.go:75", after := #[], guard := none }, { dst := some 9, op := Go.Op.assign (Go.Operand.tmp 30), type := 3, pos := "top17m.go:75", after := #[{ on := 0, ground := Go.Ground.data }, { on := 0, ground := Go.Ground.phase }], guard := none }] false).seq (Go.Code.region 12 #[{ dst := some 31, op := Go.Op.move (Go.Operand.tmp 8), type := 25, pos := "top17m.go:76", after := #[], guard := none }, { dst := some 32, op := Go.Op.move (Go.Operand.tmp 9), type := 3, pos := "top17m.go:76", after := #[], guard := none }, { dst := some 33, op := Go.Op.fieldAddr 27 (Go.Operand.tmp 5) 1, type := 0, pos := "top17m.go:76", after := #[], guard := none }, { dst := some 34, op := Go.Op.load 5 (Go.Operand.tmp 33), type := 5, pos := "top17m.go:76", after := #[{ on := 2, ground := Go.Ground.data }], guard := none }, { dst := some 35, op := Go.Op.move (Go.Operand.tmp 9), type := 3, pos := "top17m.go:76", after := #[], guard := none }, { dst := some 36, op := Go.Op.convert 3 5 (Go.Operand.tmp 35), type := 5, pos := "top17m.go:76", after := #[{ on := 4, ground := Go.Ground.data }], guard := none }, { dst := some 37, op := Go.Op.binOp Go.BinOp.add 5 (Go.Operand.tmp 34) (Go.Operand.tmp 36) 5, type := 5, pos := "top17m.go:76", after := #[{ on := 3, ground := Go.Ground.data }, { on := 5, ground := Go.Ground.data }], guard := none }, { dst := some 38, op := Go.Op.indexAddr 25 (Go.Operand.tmp 31) (Go.Operand.tmp 32), type := 0, pos := "top17m.go:76", after := #[{ on := 0, ground := Go.Ground.data }, { on := 1, ground := Go.Ground.data }, { on := 0, ground := Go.Ground.phase }, { on := 1, ground := Go.Ground.phase }, { on := 2, ground := Go.Ground.phase }, { on := 3, ground := Go.Ground.phase }, { on := 4, ground := Go.Ground.phase }, { on := 5, ground := Go.Ground.phase }, { on := 6, ground := Go.Ground.phase }], guard := none }, { dst := none, op := Go.Op.store 5 (Go.Operand.tmp 38) (Go.Operand.tmp 37), type := 0, pos := "top17m.go:76", after := #[{ on := 7, ground := Go.Ground.data }, { on := 6, ground := Go.Ground.data }, { on := 0, ground := Go.Ground.phase }, { on := 1, ground := Go.Ground.phase }, { on := 2, ground := Go.Ground.phase }, { on := 3, ground := Go.Ground.phase }, { on := 4, ground := Go.Ground.phase }, { on := 5, ground := Go.Ground.phase }, { on := 6, ground := Go.Ground.phase }], guard := none }] false))).seq (Go.Code.region 13 #[{ dst := some 39, op := Go.Op.binOp Go.BinOp.add 3 (Go.Operand.tmp 28) (Go.Operand.const (Go.Value.int Go.IntKind.i64 1)) 3, type := 3, pos := "top17m.go:75", after := #[], guard := none }, { dst := some 28, op := Go.Op.move (Go.Operand.tmp 39), type := 3, pos := "top17m.go:75", after := #[{ on := 0, ground := Go.Ground.data }], guard := none }] false))))).loop Q { tmps := #[u0, u1, u2, u3, u4, .pointer (some ⟨ba, 0, none⟩), u6, u7, .slice (some ⟨bb, 0, none⟩) 64 64, u9, u10, u11, u12, u13, u14, u15, u16, u17, u18, u19, u20, u21, u22, u23, u24, u25, u26, .int .i64 64, .int .i64 0, u29, u30, u31, u32, u33, u34, u35, u36, u37, u38, u39, u40, u41, u42, u43, u44, u45, u46, u47, u48, u49, u50, u51, u52, u53, u54, u55, u56, u57, u58, u59, u60, u61, u62, u63, u64, u65, u66, u67, u68, u69, u70, u71, u72, u73, u74, u75, u76, u77, u78, u79, u80, u81, u82, u83, u84, u85, u86, u87, u88, u89, u90, u91, u92, u93, u94, u95, u96, u97, u98, u99, u100, u101, u102, u103, u104, u105, u106, u107, u108, u109, u110, u111, u112, u113, u114, u115, u116, u117, u118, u119, u120, u121, u122, u123, u124, u125, u126, u127, u128, u129, u130, u131, u132, u133, u134, u135, u136, u137, u138, u139, u140, u141, u142, u143, u144, u145, u146, u147, u148, u149, u150, u151, u152, u153, u154, u155, u156, u157, u158, u159, u160, u161, u162, u163, u164, u165, u166, u167, u168, u169, u170, u171, u172, u173, u174, u175, u176, u177, u178, u179, u180, u181, u182, u183, u184, u185, u186, u187, u188, u189, u190, u191, u192, u193, u194, u195], defers := [] } w := by
  have HQ := Lib.hid hQ
  have H0 := Lib.hid h0
  clear hQ h0
  dsimp only []
  go_loopw [28] (fun i wr => ∃ k : Nat, k ≤ 64 ∧ i = .int .i64 k ∧ KB w.heap.size bb w wr ∧ wr.heap[bb]? = some (.cells (sec (fillK by_ k)).toArray 5 (0, 0)))
    (fun i _ => 64 - (intOf i).toNat)
  case atStart => exact ⟨0, by omega, rfl, KB.refl _ _ _, H0.out⟩
  case round =>
    obtain ⟨k, hk, rfl, hkb, hc⟩ := hrel
    have HK := Lib.hid hkb
    have HC := Lib.hid hc
    have ha2 : wr.cell? ⟨ba, 1, none⟩ = some (.int .u8 by_) := (hkb.cell (p := ⟨ba, 1, none⟩) hbl hba).trans ha
    have hfz := frozen_of_row wr bb k _ 5 hc
    have hold : ∃ v, wr.cell? ⟨bb, k, none⟩ = some v ∨ ¬ k < 64 := by
      by_cases h : k < 64
      · rw [cell_of_row wr bb k _ 5 (0, 0) hc]
        have : k < (sec (fillK by_ k)).length := by rw [sec_length, fillK_length]; exact h
        exact ⟨_, .inl (by rw [List.getElem?_toArray, List.getElem?_eq_getElem this])⟩
      · exact ⟨undef, .inr h⟩
    clear hkb hc
    by_cases hlt : k < 64
    · obtain ⟨v, hv⟩ := hold
      have hv' := hv.resolve_right (fun h => h hlt)
      clear hv
      go_wp2_with fail
      go_roundw
      case rel =>
        refine ⟨k + 1, by omega, by simp, HK.out.trans ⟨rfl, rfl, rfl, by simp [World.setCell], fun j _ hne => heap_setCell_other _ _ _ _ hne⟩, ?_⟩
        rw [heap_setCell_same wr bb k _ 5 _ HC.out, fillK_succ by_ k hlt]
      case measure => simp [intOf]; omega
    · obtain rfl : k = 64 := by omega
      go_wp2_with fail
      exact HQ.out _ _ _ _ _ _ _ _ _ _ _ _ _ wr HK.out HC.out
end Go.Proofs.Ytbimbgefclohlaa
