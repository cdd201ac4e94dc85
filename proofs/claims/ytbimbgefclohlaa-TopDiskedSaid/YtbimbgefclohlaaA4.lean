/- One part of the proof that postmarktop.TopDisked returns true for every input and that its input reads behind the call as it read before (theorem topDisked_holds in YtbimbgefclohlaaC31). The laws of this text have their conditions in their own statements; the theorem that is claimed has none. -/
import Derived.Test.YtbimbgefclohlaaA3
set_option linter.unusedVariables false
set_option linter.unusedSimpArgs false
namespace Go.Proofs.Ytbimbgefclohlaa
open Go.RowKit Go.Shelf
attribute [local go_sem] Oper.semAt_some

theorem z53 (w : World) : ∃ c : Array Value, c.size = 65 ∧ (Instr.alloc 53 true (.tuple #[])).run Try.prog w = .ok (.pointer (some ⟨w.heap.size, 0, none⟩)) (w.alloc (.cells c 53)) := by
  refine ⟨((Try.prog.info? 53).bind (·.zero)).getD undef |>.cells, by kernel_rfl, ?_⟩
  kernel_rfl

theorem i53 : (Try.prog.info? 53).map (·.size) = some 65 := by kernel_rfl
theorem i51 : (Try.prog.info? 51).map (·.size) = some 64 := by kernel_rfl

theorem wpListIn_alloc53 {ops : Array Oper} {rest : List Oper} {o : Oper} {a : Act} {w : World} {Q : Exit → Act → World → Prop} {F : Fence} (hF : Wide F) {n : Nat} (hgd : o.guard = none) (ho : o.op = .alloc 53)
    (h : ∀ c : Array Value, c.size = 65 → wpListIn F n Try.prog ops Q rest (a.put o.dst (.pointer (some ⟨w.heap.size, 0, none⟩))) (w.alloc (.cells c 53))) : wpListIn F n Try.prog ops Q (o :: rest) a w := by
  refine hF.list hgd (fun c => by rw [ho]; simp) fun K hK => ?_
  obtain ⟨c, hc, hr⟩ := z53 w
  unfold Oper.wp execOp
  simp only [ho, Sem.run_bind, hr, Result.andThen_ok, Sem.run_pure]
  exact hK _ _ (h c hc)

theorem cells_new (W : World) (cs : List Value) (t : TypeId) : ∀ j u, cs[j]? = some u → (W.alloc (.cells cs.toArray t)).cell? ((⟨W.heap.size, 0, none⟩ : Addr).add j) = some u := by
  intro j u hu
  have hadd : (⟨W.heap.size, 0, none⟩ : Addr).add j = ⟨W.heap.size, j, none⟩ := by unfold Addr.add; split <;> simp_all
  rw [hadd, cell_of_row _ _ _ _ t (0, 0) (heap_alloc_new W _)]
  simpa using hu
theorem store_whole (c : Array Value) (cs : List Value) (h : cs.length = c.size) : (c.toList.take 0 ++ cs ++ c.toList.drop (0 + cs.length)).toArray = cs.toArray := by
  rw [List.drop_of_length_le (by simp [h])]
  simp


theorem abides_alloc {β : Type} {B : Nat} {J : β → World → Prop} (h : AbidesFrom B J) {s : β} {w : World} (hs : J s w) (o : Obj) : J s (w.alloc o) :=
  h s w (w.alloc o) none hs (World.grownBy_alloc w o none) (fun r e => by cases e)

set_option maxRecDepth 100000 in
set_option maxHeartbeats 2000000 in
theorem kept1_in {α : Type} (enc : α → (Nat × List Int) × Int) (el : Nat → α) (n : Nat) (l n0 bs B1 B2 g : Nat) (aw : Option Addr) (mw cw : Nat) (waits : List (Nat × List Int)) (ac : Option Addr) (m cc : Nat) (choice : List Int)
    (hel : ∀ j, j < mw → enc (el j) = kelem waits choice j) (J Jx : List α → World → Prop) (W : World) (hn0 : n0 ≤ W.heap.size)
    (hJ : AbidesFrom W.heap.size J)
    (hY : ∀ pre x W1, J pre W1 → pre.length < mw → YieldAt Fence.wide (n - 1) Try.prog l (kencs (enc x)) W1 fun e W' =>
      (e = .returned (.bool true) ∧ J (pre ++ [x]) W' ∧ KB n0 bs W1 W') ∨ (e = .returned (.bool false) ∧ Jx (pre ++ [x]) W'))
    (hR : KeptReads W n0 bs B1 B2 g aw mw cw waits ac m cc choice) (h0 : J [] W) :
    CallsIn Fence.wide n Try.prog 31 #[.func (.yield l) #[] #[], .pointer (some ⟨B1, 0, none⟩), .pointer (some ⟨B2, 0, none⟩)] W fun e W' => (∃ v, e = .returned v) ∧
      ((∃ ys, ys = upto el mw ∧ J ys W') ∨ (∃ pre, (∃ k, k ≤ mw ∧ pre = upto el k) ∧ Jx pre W')) := by
  have hmw := hR.wl.2.1
  have hb1 := hR.b1.2.2
  have hb2 := hR.b2.2.2
  have hgw := hR.gw.2.2
  have HR := Lib.hid hR
  have HJ := Lib.hid hJ
  have HY := Lib.hid hY
  have Hel := Lib.hid hel
  clear hR hJ hY hel
  refine callsIn_of_wp Try.func31 rfl trivial ?_ rfl
  simp only [Try.ntmps31, List.size_toArray, List.length_cons, List.length_nil, Nat.reduceAdd, Nat.reduceSub, Array.replicate_succ, Array.replicate_zero, List.push_toArray, List.append_toArray, List.nil_append, List.cons_append]
  gi_wp2
  clear hb1 hb2 hgw
  gi_loopw [12] (fun i wr => ∃ k : Nat, k ≤ mw ∧ i = .int .i64 k ∧ J (upto el k) wr ∧ KB n0 bs W wr)
    (fun i _ => mw - (intOf i).toNat)
  case atStart => exact ⟨0, Nat.zero_le _, rfl, h0, KB.refl _ _ _⟩
  case round =>
    obtain ⟨k, hk, rfl, hJs, hnx⟩ := hrel
    by_cases hlt : k < mw
    · have hR2 := HR.out.kb hnx
      have hb2 := hR2.b2.2.2
      obtain ⟨ad, rfl, ha1, ha2, hcell⟩ := hR2.wc (by omega)
      have hwl : (waits.getD k (0, [])).2.length = 64 := by
        have : k < waits.length := by rw [hR2.wl.1]; exact hlt
        rw [List.getD_eq_getElem?_getD, List.getElem?_eq_getElem this]
        exact hR2.wl.2.2 _ (List.getElem_mem _)
      have hcs0 := hcell k hlt
      clear hcell
      obtain ⟨p, hp⟩ : ∃ p, waits.getD k (0, []) = p := ⟨_, rfl⟩
      rw [hp] at hcs0 hwl
      have hcs := Lib.hid hcs0
      clear hcs0
      have hsz : n0 ≤ wr.heap.size := Nat.le_trans hn0 hnx.size
      have hb2' : ∀ o, (wr.alloc o).cell? ⟨B2, 0, none⟩ = some (.slice ac m cc) := fun o => (World.cell?_of_block (Below.heap_alloc wr o B2 (by have := hR2.b2.1; omega))).trans hb2
      clear hb2
      have HJ1 := Lib.hid (abides_alloc HJ.out hJs (.cells (wrC p).toArray 53))
      have hkb : ∀ (W3 : World), KB n0 bs (wr.alloc (.cells (wrC p).toArray 53)) W3 → KB n0 bs W W3 := fun W3 h3 => hnx.trans ((KB.alloc n0 bs wr _ hsz).trans h3)
      have Hkb := Lib.hid hkb
      clear hkb
      by_cases hkm : k < m
      · obtain ⟨ad2, rfl, hc1, hc2, hch⟩ := hR2.cc (by omega)
        have hch' : ∀ o, (wr.alloc o).cell? (ad2.add k) = some (.int .u8 (choice.getD k 0)) := fun o => by
          have hb : (ad2.add k).block = ad2.block := by unfold Addr.add; split <;> rfl
          exact (World.cell?_of_block (Below.heap_alloc wr o _ (by rw [hb]; omega))).trans (hch k hkm)
        have hcv : 0 ≤ choice.getD k 0 ∧ choice.getD k 0 ≤ 255 := by
          have : k < choice.length := by rw [hR2.cl.1]; exact hkm
          rw [List.getD_eq_getElem?_getD, List.getElem?_eq_getElem this]
          exact hR2.cl.2.2 _ (List.getElem_mem _)
        have hcl : choice.length = m := hR2.cl.1
        have hkn0 : kn choice k = min (choice.getD k 0) 64 := by unfold kn; rw [if_pos (by omega)]
        clear hcl
        generalize choice.getD k 0 = cv at *
        obtain ⟨c0, c1⟩ := hcv
        by_cases hc64 : cv ≤ 64
        · have he : enc (el k) = (p, cv) := by rw [Hel.out k hlt]; unfold kelem; rw [hp, hkn0]; congr 1; omega
          obtain ⟨fn, tmps, assign, body, hy0, hRd⟩ := HY.out _ (el k) _ HJ1.out (by rw [upto_length]; exact hlt)
          rw [he] at hy0
          have hy : (Instr.yield l #[.agg (wrC p).toArray, .int .i64 cv]).run Try.prog (wr.alloc (.cells (wrC p).toArray 53)) = _ := hy0
          have He := Lib.hid he
          have HRd := Lib.hid hRd
          clear he hch hR2 hkn0 hp hy0 hRd hJs
          gi_wp2_with (first | (refine wpListIn_load_agg (.inl rfl) rfl 53 (.tmp 15) rfl (ad.add (k * 65)) rfl (wrC p) _ hcs.out Try.underlying53 rfl (by rw [i53, wrC_length _ hwl]) ?_) | (refine wpListIn_alloc53 (.inl rfl) rfl rfl ?_; intro c hc) | (refine wpListIn_store_agg (.inl rfl) rfl 53 (.tmp 5) (.tmp 16) rfl wr.heap.size 0 rfl (wrC p) rfl c 53 (heap_alloc_new _ _) (by rw [wrC_length _ hwl]; omega) (wrC_one _) (by rw [i53, wrC_length _ hwl]) ?_; rw [store_whole c _ (by rw [wrC_length _ hwl, hc]), alloc_setRow]) | (refine wpListIn_load_agg (.inl rfl) rfl 53 (.tmp 5) rfl ⟨wr.heap.size, 0, none⟩ rfl (wrC p) _ (cells_new _ _ _) Try.underlying53 rfl (by rw [i53, wrC_length _ hwl]) ?_))
          refine ⟨(fun h => by simp [Fence.wide] at h), ?_⟩
          refine HRd.out.mono ?_
          rintro e W3 (⟨rfl, hJ3, hk3⟩ | ⟨rfl, hJx3⟩)
          · gi_wp2
            go_roundw
            case rel => exact ⟨k + 1, by omega, by simp, by rw [upto_succ]; exact hJ3, Hkb.out _ hk3⟩
            case measure => simp [intOf]; omega
          · gi_wp2
            refine bodyPost_ret (results_none rfl _ _ _) rfl ?_
            exact ⟨⟨_, rfl⟩, .inr ⟨_, ⟨k + 1, by omega, by rw [upto_succ]⟩, hJx3⟩⟩
        · have he : enc (el k) = (p, 64) := by rw [Hel.out k hlt]; unfold kelem; rw [hp, hkn0]; congr 1; omega
          obtain ⟨fn, tmps, assign, body, hy0, hRd⟩ := HY.out _ (el k) _ HJ1.out (by rw [upto_length]; exact hlt)
          rw [he] at hy0
          have hy : (Instr.yield l #[.agg (wrC p).toArray, .int .i64 64]).run Try.prog (wr.alloc (.cells (wrC p).toArray 53)) = _ := hy0
          have He := Lib.hid he
          have HRd := Lib.hid hRd
          have hc65 : 64 < cv := by omega
          clear he hch hR2 hkn0 hp hy0 hRd hJs hc64
          gi_wp2_with (first | (refine wpListIn_load_agg (.inl rfl) rfl 53 (.tmp 15) rfl (ad.add (k * 65)) rfl (wrC p) _ hcs.out Try.underlying53 rfl (by rw [i53, wrC_length _ hwl]) ?_) | (refine wpListIn_alloc53 (.inl rfl) rfl rfl ?_; intro c hc) | (refine wpListIn_store_agg (.inl rfl) rfl 53 (.tmp 5) (.tmp 16) rfl wr.heap.size 0 rfl (wrC p) rfl c 53 (heap_alloc_new _ _) (by rw [wrC_length _ hwl]; omega) (wrC_one _) (by rw [i53, wrC_length _ hwl]) ?_; rw [store_whole c _ (by rw [wrC_length _ hwl, hc]), alloc_setRow]) | (refine wpListIn_load_agg (.inl rfl) rfl 53 (.tmp 5) rfl ⟨wr.heap.size, 0, none⟩ rfl (wrC p) _ (cells_new _ _ _) Try.underlying53 rfl (by rw [i53, wrC_length _ hwl]) ?_))
          refine ⟨(fun h => by simp [Fence.wide] at h), ?_⟩
          refine HRd.out.mono ?_
          rintro e W3 (⟨rfl, hJ3, hk3⟩ | ⟨rfl, hJx3⟩)
          · gi_wp2
            go_roundw
            case rel => exact ⟨k + 1, by omega, by simp, by rw [upto_succ]; exact hJ3, Hkb.out _ hk3⟩
            case measure => simp [intOf]; omega
          · gi_wp2
            refine bodyPost_ret (results_none rfl _ _ _) rfl ?_
            exact ⟨⟨_, rfl⟩, .inr ⟨_, ⟨k + 1, by omega, by rw [upto_succ]⟩, hJx3⟩⟩
      · have he : enc (el k) = (p, 0) := by rw [Hel.out k hlt]; unfold kelem kn; rw [hp, if_neg (by rw [hR2.cl.1]; omega)]
        obtain ⟨fn, tmps, assign, body, hy0, hRd⟩ := HY.out _ (el k) _ HJ1.out (by rw [upto_length]; exact hlt)
        rw [he] at hy0
        have hy : (Instr.yield l #[.agg (wrC p).toArray, .int .i64 0]).run Try.prog (wr.alloc (.cells (wrC p).toArray 53)) = _ := hy0
        have He := Lib.hid he
        have HRd := Lib.hid hRd
        clear he hR2 hp hy0 hRd hJs
        gi_wp2_with (first | (refine wpListIn_load_agg (.inl rfl) rfl 53 (.tmp 15) rfl (ad.add (k * 65)) rfl (wrC p) _ hcs.out Try.underlying53 rfl (by rw [i53, wrC_length _ hwl]) ?_) | (refine wpListIn_alloc53 (.inl rfl) rfl rfl ?_; intro c hc) | (refine wpListIn_store_agg (.inl rfl) rfl 53 (.tmp 5) (.tmp 16) rfl wr.heap.size 0 rfl (wrC p) rfl c 53 (heap_alloc_new _ _) (by rw [wrC_length _ hwl]; omega) (wrC_one _) (by rw [i53, wrC_length _ hwl]) ?_; rw [store_whole c _ (by rw [wrC_length _ hwl, hc]), alloc_setRow]) | (refine wpListIn_load_agg (.inl rfl) rfl 53 (.tmp 5) rfl ⟨wr.heap.size, 0, none⟩ rfl (wrC p) _ (cells_new _ _ _) Try.underlying53 rfl (by rw [i53, wrC_length _ hwl]) ?_))
        refine ⟨(fun h => by simp [Fence.wide] at h), ?_⟩
        refine HRd.out.mono ?_
        rintro e W3 (⟨rfl, hJ3, hk3⟩ | ⟨rfl, hJx3⟩)
        · gi_wp2
          go_roundw
          case rel => exact ⟨k + 1, by omega, by simp, by rw [upto_succ]; exact hJ3, Hkb.out _ hk3⟩
          case measure => simp [intOf]; omega
        · gi_wp2
          refine bodyPost_ret (results_none rfl _ _ _) rfl ?_
          exact ⟨⟨_, rfl⟩, .inr ⟨_, ⟨k + 1, by omega, by rw [upto_succ]⟩, hJx3⟩⟩
    · obtain rfl : k = mw := by omega
      gi_wp2
      go_end0
      exact ⟨⟨_, rfl⟩, .inl ⟨_, rfl, hJs⟩⟩

set_option maxHeartbeats 400000 in
theorem kept_any (w : World) (g : Nat) (ac : Option Addr) (m cc : Nat) :
    Calls Try.prog 30 #[.pointer (some ⟨g, 0, none⟩), .slice ac m cc] w fun e w' => e = .returned (.func (.func 31) #[] #[.pointer (some ⟨w.heap.size, 0, none⟩), .pointer (some ⟨w.heap.size + 1, 0, none⟩)]) ∧ w' = (w.alloc (.cells #[.pointer (some ⟨g, 0, none⟩)] 28)).alloc (.cells #[.slice ac m cc] 25) := by
  go_enter Try.func30, Try.ntmps30
  go_wp2
  go_ret
  exact ⟨rfl, rfl⟩

theorem kept_stops {α : Type} (enc : α → (Nat × List Int) × Int) (el : Nat → α) (n : Nat) (n0 bs B1 B2 g : Nat) (aw : Option Addr) (mw cw : Nat) (waits : List (Nat × List Int)) (ac : Option Addr) (m cc : Nat) (choice : List Int)
    (hel : ∀ j, j < mw → enc (el j) = kelem waits choice j) (w : World) (hn0 : n0 ≤ w.heap.size) (hbs : n0 = w.heap.size)
    (hR : KeptReads w n0 bs B1 B2 g aw mw cw waits ac m cc choice) :
    SeqStopsK Fence.wide n Try.prog 31 #[.pointer (some ⟨B1, 0, none⟩), .pointer (some ⟨B2, 0, none⟩)] (fun x : α => kencs (enc x)) (KB n0 bs) (fun ys => ys = upto el mw) (fun _ => True) mw w := fun l J Jx W hW hJ hJx hY h0 => by
  have hkb : KB n0 bs w W := ⟨hW.os, hW.tape, hW.output, hW.size, fun k hk _ => hW.block k (by omega)⟩
  refine (kept1_in enc el n l n0 bs B1 B2 g aw mw cw waits ac m cc choice hel J Jx W (Nat.le_trans hn0 hW.size) hJ hY (hR.kb hkb) h0).mono ?_
  rintro e W' ⟨he, ⟨ys, rfl, hj⟩ | ⟨pre, _, hj⟩⟩
  · exact ⟨he, .inl ⟨_, rfl, hj⟩⟩
  · exact ⟨he, .inr ⟨_, trivial, hj⟩⟩
end Go.Proofs.Ytbimbgefclohlaa
