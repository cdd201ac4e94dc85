/- One part of the proof that postmarktop.TopDisked returns true for every input and that its input reads behind the call as it read before (theorem topDisked_holds in YtbimbgefclohlaaC31). The laws of this text have their conditions in their own statements; the theorem that is claimed has none. -/
import Derived.Test.YtbimbgefclohlaaA7
set_option linter.unusedVariables false
set_option linter.unusedSimpArgs false
namespace Go.Proofs.Ytbimbgefclohlaa
open Go.RowKit

theorem add_none (g o n : Nat) : (⟨g, o, none⟩ : Addr).add n = ⟨g, o + n, none⟩ := by unfold Addr.add; split <;> simp_all

/-- what a call may have turned: blocks of F; F' is what the thing has now -/
structure Step (F F' : Nat → Prop) (w w' : World) : Prop where
  os : w'.os = w.os
  tape : w'.tape = w.tape
  output : w'.output = w.output
  size : w.heap.size ≤ w'.heap.size
  block : ∀ k, k < w.heap.size → ¬ F k → w'.heap[k]? = w.heap[k]?
  new : ∀ k, F' k → F k ∨ w.heap.size ≤ k
theorem Step.refl (F : Nat → Prop) (w : World) : Step F F w w := ⟨rfl, rfl, rfl, Nat.le_refl _, fun _ _ _ => rfl, fun _ h => .inl h⟩
theorem Step.trans {F F1 F2 : Nat → Prop} {a b c : World} (h : Step F F1 a b) (k : Step F1 F2 b c) : Step F F2 a c :=
  ⟨k.os.trans h.os, k.tape.trans h.tape, k.output.trans h.output, Nat.le_trans h.size k.size,
    fun i hi hF => (k.block i (Nat.lt_of_lt_of_le hi h.size) (fun h1 => by rcases h.new i h1 with h2 | h2; exact hF h2; omega)).trans (h.block i hi hF),
    fun i hi => by
      rcases k.new i hi with h1 | h1
      · exact h.new i h1
      · exact .inr (Nat.le_trans h.size h1)⟩
theorem Step.mono {F F' G' : Nat → Prop} {w w' : World} (h : Step F F' w w') (hG : ∀ k, G' k → F' k ∨ w.heap.size ≤ k) : Step F G' w w' :=
  ⟨h.os, h.tape, h.output, h.size, h.block, fun k hk => (hG k hk).elim (h.new k) .inr⟩
theorem Step.alloc (F : Nat → Prop) (w : World) (o : Obj) : Step F F w (w.alloc o) :=
  ⟨rfl, rfl, rfl, by simp, fun k hk _ => Below.heap_alloc _ _ _ hk, fun _ h => .inl h⟩
theorem Step.drew (F : Nat → Prop) (w : World) : Step F F w w.drew := ⟨rfl, rfl, rfl, Nat.le_refl _, fun _ _ _ => rfl, fun _ h => .inl h⟩
theorem Step.set {F : Nat → Prop} {w : World} {p : Addr} (hp : F p.block) (u : Value) : Step F F w (w.setCell p u) :=
  ⟨rfl, rfl, rfl, by simp [World.setCell], fun k _ hF => Below.heap_setCell _ _ _ _ (fun e => hF (e ▸ hp)), fun _ h => .inl h⟩
theorem Step.below {F F' : Nat → Prop} {w w' : World} {B : Nat} (h : Step F F' w w') (hB : B ≤ w.heap.size) (hF : ∀ k, F k → B ≤ k) : Below B w w' :=
  ⟨h.os, h.tape, h.output, h.size, fun k hk => h.block k (by omega) (fun hk' => by have := hF k hk'; omega)⟩
theorem Step.ofBelow {F : Nat → Prop} {w w' : World} (h : Below w.heap.size w w') : Step F F w w' :=
  ⟨h.os, h.tape, h.output, h.size, fun k hk _ => h.block k hk, fun _ h => .inl h⟩

/-- a choice that is kept: its bytes lie in a row of their own -/
def Cho (w : World) (cv : Value) (ch : List Int) : Prop :=
  ∃ A c, cv = .slice A ch.length c ∧ ch.length ≤ 140737488351232 ∧ (ch.length = 0 ∨ w.ownsRow 0 5 1 cv ch.length (sec ch))

def foot (g : Nat) (sv wv : Value) : Nat → Prop := fun k => k = g ∨ sv.ownBlock = some k ∨ wv.ownBlock = some k

structure IsDisk (B : Nat) (w : World) (g : Nat) (sv wv cv : Value) (D : Dk) : Prop where
  ok : D.Ok
  base : B ≤ g
  db : DB w g sv wv cv D.room D.down D.steps
  s : w.ownsRow B 51 64 sv D.stays.length (secs D.stays)
  wt : w.ownsRow B 53 65 wv D.waits.length (wrsC D.waits)
  c : Cho w cv D.choice

theorem own_typed' {w : World} {base : Nat} {e : TypeId} {size n : Nat} {v : Value} {xs : List Value} (h : w.ownsRow base e size v n xs) (k : Nat) (hk : v.ownBlock = some k) : base ≤ k ∧ ∃ cells, w.heap[k]? = some (.cells cells e (0, 0)) := by
  rcases h.2 with ⟨rfl, _⟩ | ⟨g, cap, cur, rfl, hb, hh, _⟩
  · simp [Value.ownBlock] at hk
  · have : g = k := by simpa [Value.ownBlock] using hk
    subst this
    exact ⟨hb, cur, hh⟩
theorem own_same {w w1 : World} {base : Nat} {e : TypeId} {size n : Nat} {v : Value} {xs : List Value} (h : w.ownsRow base e size v n xs) (hm : ∀ k, v.ownBlock = some k → w1.heap[k]? = w.heap[k]?) : w1.ownsRow base e size v n xs := by
  obtain ⟨h1, h2⟩ := h
  refine ⟨h1, ?_⟩
  rcases h2 with h2 | ⟨g, cap, cur, rfl, hg, hh, r⟩
  · exact .inl h2
  · exact .inr ⟨g, cap, cur, rfl, hg, (hm g (by simp [Value.ownBlock])).trans hh, r⟩
theorem Cho.keep {w w1 : World} {cv : Value} {ch : List Int} (h : Cho w cv ch) (hm : ∀ (k : Nat) (cells : Array Value), w.heap[k]? = some (.cells cells 5 (0, 0)) → w1.heap[k]? = w.heap[k]?) : Cho w1 cv ch := by
  obtain ⟨A, c, e, hl, h | h⟩ := h
  · exact ⟨A, c, e, hl, .inl h⟩
  · refine ⟨A, c, e, hl, .inr (own_same h (fun k hk => ?_))⟩
    obtain ⟨_, cells, hc⟩ := own_typed' h k hk
    exact hm k cells hc

section
variable {B : Nat} {w w' : World} {g : Nat} {sv wv cv : Value} {D : Dk}
theorem IsDisk.types (h : IsDisk B w g sv wv cv D) (k : Nat) (hk : foot g sv wv k) : B ≤ k ∧ ∃ cells t, w.heap[k]? = some (.cells cells t (0, 0)) ∧ (t = 49 ∨ t = 51 ∨ t = 53) := by
  rcases hk with rfl | hk | hk
  · exact ⟨h.base, _, _, h.db, .inl rfl⟩
  · obtain ⟨h1, cells, hc⟩ := own_typed' h.s k hk
    exact ⟨h1, cells, 51, hc, .inr (.inl rfl)⟩
  · obtain ⟨h1, cells, hc⟩ := own_typed' h.wt k hk
    exact ⟨h1, cells, 53, hc, .inr (.inr rfl)⟩
theorem IsDisk.lt (h : IsDisk B w g sv wv cv D) (k : Nat) (hk : foot g sv wv k) : k < w.heap.size := by
  obtain ⟨_, _, _, hc, _⟩ := h.types k hk
  exact (Array.getElem?_eq_some_iff.1 hc).1
theorem IsDisk.keep (h : IsDisk B w g sv wv cv D) (hm : ∀ k, foot g sv wv k → w'.heap[k]? = w.heap[k]?) (h5 : ∀ (k : Nat) (cells : Array Value), w.heap[k]? = some (.cells cells 5 (0, 0)) → w'.heap[k]? = w.heap[k]?) : IsDisk B w' g sv wv cv D :=
  ⟨h.ok, h.base, by unfold DB; rw [hm g (.inl rfl)]; exact h.db, own_same h.s (fun k hk => hm k (.inr (.inl hk))), own_same h.wt (fun k hk => hm k (.inr (.inr hk))), h.c.keep h5⟩
theorem IsDisk.below (h : IsDisk B w g sv wv cv D) (hb : Below w.heap.size w w') : IsDisk B w' g sv wv cv D :=
  h.keep (fun k hk => hb.block k (h.lt k hk)) (fun k _ hk => hb.block k (Array.getElem?_eq_some_iff.1 hk).1)
/-- a step of something else -/
theorem IsDisk.step (h : IsDisk B w g sv wv cv D) {F F' : Nat → Prop} (hs : Step F F' w w') (hF : ∀ k, F k → ¬ foot g sv wv k) (h5 : ∀ k, F k → ∃ cells t, w.heap[k]? = some (.cells cells t (0, 0)) ∧ t ≠ 5) : IsDisk B w' g sv wv cv D :=
  h.keep (fun k hk => hs.block k (h.lt k hk) (fun h1 => hF k h1 hk)) (fun k cells hk => hs.block k (Array.getElem?_eq_some_iff.1 hk).1 (fun h1 => by
    obtain ⟨c2, t, h2, h3⟩ := h5 k h1
    rw [hk] at h2
    injection h2 with h2
    injection h2 with _ h2
    exact h3 h2.symm))
/-- its stays, laid open -/
theorem IsDisk.open_ (h : IsDisk B w g sv wv cv D) : ∃ bs cap cur, sv = .slice (some ⟨bs, 0, none⟩) D.stays.length cap ∧ B ≤ bs ∧ w.heap[bs]? = some (.cells cur 51 (0, 0)) ∧ D.stays.length ≤ cap ∧ cap ≤ maxLen ∧ cur.size = cap * 64 ∧ cur.toList.take (D.stays.length * 64) = secs D.stays := by
  rcases h.s.2 with ⟨_, h0⟩ | ⟨bs, cap, cur, e, h1, h2, h3, h4, h5, h6⟩
  · have := h.ok.n.1; omega
  · exact ⟨bs, cap, cur, e, h1, h2, h3, h4, h5, h6⟩
end
theorem wrC_all {ws : List (Nat × List Int)} {n : Nat} (h : ∀ p ∈ ws, p.1 < n ∧ p.2.length = 64 ∧ byteL p.2) : ∀ p ∈ ws, (wrC p).length = 65 := fun p hp => wrC_length p (h p hp).2.1
theorem row_wait {w : World} {B mw : Nat} {wv : Value} {ws : List (Nat × List Int)} {n : Nat} (h : w.ownsRow B 53 65 wv ws.length (wrsC ws)) (hw : ∀ p ∈ ws, p.1 < n ∧ p.2.length = 64 ∧ byteL p.2) :
    ∃ aw cw, wv = .slice aw ws.length cw ∧ (0 < ws.length → ∃ b, aw = some ⟨b, 0, none⟩ ∧ wv.ownBlock = some b ∧ ∀ k, k < ws.length → ∀ j u, (wrC (ws.getD k (0, [])))[j]? = some u → w.cell? (((⟨b, 0, none⟩ : Addr).add (k * 65)).add j) = some u) := by
  rcases h.2 with ⟨rfl, h0⟩ | ⟨b, cap, cur, rfl, h1, h2, h3, h4, h5, h6⟩
  · exact ⟨none, 0, by rw [h0], fun hp => by omega⟩
  · refine ⟨_, cap, rfl, fun _ => ⟨b, rfl, rfl, fun k hk j u hu => ?_⟩⟩
    have hj : j < 65 := by
      have h7 := wrC_length (ws.getD k (0, [])) (hw _ (by rw [List.getD_eq_getElem?_getD, List.getElem?_eq_getElem hk]; exact List.getElem_mem _)).2.1
      have := (List.getElem?_eq_some_iff.1 hu).1
      omega
    have h7 := h.cells (g := b) rfl (k * 65 + j) u (by
      unfold wrsC
      rw [flat_get (wrC_all hw) k j hk hj]
      rw [List.getD_eq_getElem?_getD, List.getElem?_eq_getElem hk] at hu
      exact hu)
    rw [add_none] at h7
    rw [add_none, add_none]
    rwa [show 0 + k * 65 + j = 0 + (k * 65 + j) from by omega]

/-- a choice that is read -/
structure RB (w : World) (ac : Option Addr) (m : Nat) (ch : List Int) (no : Nat → Prop) : Prop where
  l : ch.length = m ∧ m ≤ 140737488351232
  b : byteL ch
  c : 0 < m → ∃ ad : Addr, ac = some ad ∧ ad.block < w.heap.size ∧ ¬ no ad.block ∧ ∀ k, k < m → w.cell? (ad.add k) = some (.int .u8 (ch.getD k 0))
theorem Cho.rb {w : World} {cv : Value} {ch : List Int} (h : Cho w cv ch) (hb : byteL ch) (no : Nat → Prop) (hno : ∀ k, no k → ∃ cells t, w.heap[k]? = some (.cells cells t (0, 0)) ∧ t ≠ 5) :
    ∃ ac c, cv = .slice ac ch.length c ∧ RB w ac ch.length ch no := by
  obtain ⟨A, c, rfl, hl, h⟩ := h
  refine ⟨A, c, rfl, ⟨rfl, hl⟩, hb, fun hp => ?_⟩
  rcases h with h | h
  · omega
  · rcases h.2 with ⟨e, h0⟩ | ⟨b, cap, cur, e, h1, h2, h3, h4, h5, h6⟩
    · omega
    · injection e with e1 e2 e3
      subst e1
      refine ⟨_, rfl, (Array.getElem?_eq_some_iff.1 h2).1, fun hn => ?_, fun k hk => ?_⟩
      · obtain ⟨c2, t, h7, h8⟩ := hno _ hn
        rw [h2] at h7
        injection h7 with h7
        injection h7 with _ h7
        exact h8 h7.symm
      · exact h.cells (g := b) rfl k _ (by simp [sec, List.getElem?_eq_getElem hk, List.getD_eq_getElem?_getD])

def fallD (D : Dk) (ch : List Int) : Dk := { D with stays := fallS D.stays D.waits ch, waits := [], down := true, steps := 0, choice := [] }
theorem byteL_nil : byteL [] := fun _ h => by cases h

theorem falls_disk (B : Nat) (w : World) (g : Nat) (sv wv cv : Value) (D : Dk) (h : IsDisk B w g sv wv cv D) (ac : Option Addr) (m cc : Nat) (ch : List Int) (hch : RB w ac m ch (foot g sv wv)) :
    Calls Try.prog 28 #[.pointer (some ⟨g, 0, none⟩), .slice ac m cc] w fun e w' => e = .returned (.tuple #[]) ∧ IsDisk B w' g sv (.slice none 0 0) (.slice none 0 0) (fallD D ch) ∧ Step (foot g sv wv) (foot g sv (.slice none 0 0)) w w' := by
  obtain ⟨bs, cap, cur, rfl, hbB, hs, hcap, hmax, hsz, ht⟩ := h.open_
  obtain ⟨aw, cw, rfl, hwc⟩ := row_wait (mw := 0) h.wt h.ok.w
  have hl : D.stays.length * 64 ≤ cur.toList.length := by rw [Array.length_toList, hsz]; exact Nat.mul_le_mul_right _ hcap
  have hlen : D.waits.length ≤ 1000000 := by have := h.ok.r; omega
  refine (falls_any w g bs D.stays.length cap aw D.waits.length cw D.waits ac m cc ch cv D.room D.down D.steps cur.toList h.db (by simpa using hs) h.ok.n hl {
    wl := ⟨rfl, hlen, fun p hp => ⟨(h.ok.w p hp).1, (h.ok.w p hp).2.1⟩⟩
    wc := fun hp => by
      obtain ⟨b, e, h1, h2⟩ := hwc hp
      refine ⟨_, e, h.lt b (.inr (.inr (by rw [e]; rfl))), ?_, h2⟩
      intro he
      obtain ⟨_, cells, hc⟩ := own_typed' h.wt b h1
      have he' : b = bs := he
      rw [he', hs] at hc
      injection hc with hc
      injection hc with _ hc
      cases hc
    cl := ⟨hch.l.1, by have := hch.l.2; omega, hch.b⟩
    cc := fun hp => by
      obtain ⟨ad, e, h1, h2, h3⟩ := hch.c hp
      exact ⟨ad, e, h1, fun he => h2 (.inr (.inl (by rw [he]; rfl))), h3⟩ }).mono ?_
  rintro e w' ⟨rfl, hp⟩
  obtain ⟨f1, f2, f3, f4⟩ := fall_take (s := D.stays) (cur := cur.toList) (waits := D.waits) (choice := ch) h.ok.s h.ok.w hch.b ht hl
  refine ⟨rfl, ⟨⟨?_, f4, by simp [fallD], ?_, ?_, byteL_nil⟩, h.base, ?_, ?_, ?_, ?_⟩, ?_⟩
  · simp only [fallD, f2]; exact h.ok.n
  · have := h.ok.r; simp only [fallD]; simp; omega
  · simp [fallD]
  · have := hp.own; exact this
  · refine ⟨?_, .inr ⟨bs, cap, _, by simp only [fallD, f2], hbB, hp.stays, by simp only [fallD, f2]; exact hcap, hmax, ?_, ?_⟩⟩
    · simp only [fallD]
      rw [← f1, List.length_take, f3, f2]
      omega
    · rw [List.size_toArray, f3, Array.length_toList]; exact hsz
    · simp only [fallD, f2]; exact f1
  · exact World.ownsRow_nil _ _ _ _
  · exact ⟨none, 0, rfl, by simp [fallD], .inl rfl⟩
  · exact ⟨hp.os, hp.tape, hp.output, hp.size, fun k hk hF => hp.block k hk (fun e => hF (.inr (.inl (by rw [e]; rfl)))) (fun e => hF (.inl e)), fun k hk => by
      rcases hk with h1 | h1 | h1
      · exact .inl (.inl h1)
      · exact .inl (.inr (.inl h1))
      · simp [Value.ownBlock] at h1⟩
end Go.Proofs.Ytbimbgefclohlaa
