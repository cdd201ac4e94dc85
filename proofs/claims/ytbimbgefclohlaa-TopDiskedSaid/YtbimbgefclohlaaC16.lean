/- One part of the proof that postmarktop.TopDisked returns true for every input and that its input reads behind the call as it read before (theorem topDisked_holds in YtbimbgefclohlaaC31). The laws of this text have their conditions in their own statements; the theorem that is claimed has none. -/
import Derived.Test.YtbimbgefclohlaaC15
set_option linter.unusedVariables false
set_option linter.unusedSimpArgs false
namespace Go.Proofs.Ytbimbgefclohlaa
open Go.RowKit

/-! ### a disk and what is written down of it, side by side -/
structure Two (B : Nat) (w : World) (gd gx : Nat) (sd wd cd sx wx cx : Value) (D : Dk) : Prop where
  d : IsDisk B w gd sd wd cd D
  x : IsX B w gx sx wx cx D
def or2 (F G : Nat → Prop) : Nat → Prop := fun k => F k ∨ G k
def LeftT (B : Nat) (w w' : World) (gd gx : Nat) (F : Nat → Prop) (D : Dk) : Prop :=
  ∃ sd wd cd sx wx cx, Two B w' gd gx sd wd cd sx wx cx D ∧ Step F (or2 (foot gd sd wd) (foot gx sx wx)) w w'
theorem Step.left {F F' X : Nat → Prop} {w w' : World} (h : Step F F' w w') : Step (or2 F X) (or2 F' X) w w' :=
  ⟨h.os, h.tape, h.output, h.size, fun k hk hF => h.block k hk (fun e => hF (.inl e)), fun k hk => by
    rcases hk with h1 | h1
    · rcases h.new k h1 with h2 | h2
      · exact .inl (.inl h2)
      · exact .inr h2
    · exact .inl (.inr h1)⟩
theorem Step.right {F F' X : Nat → Prop} {w w' : World} (h : Step F F' w w') : Step (or2 X F) (or2 X F') w w' :=
  ⟨h.os, h.tape, h.output, h.size, fun k hk hF => h.block k hk (fun e => hF (.inr e)), fun k hk => by
    rcases hk with h1 | h1
    · exact .inl (.inl h1)
    · rcases h.new k h1 with h2 | h2
      · exact .inl (.inr h2)
      · exact .inr h2⟩
theorem foot_apart {Bd Bx : Nat} {w : World} {gd gx : Nat} {sd wd cd sx wx cx : Value} {D D' : Dk} (hd : IsDisk Bd w gd sd wd cd D) (hx : IsX Bx w gx sx wx cx D') (k : Nat) : foot gd sd wd k → ¬ foot gx sx wx k := fun h1 h2 => by
  obtain ⟨_, c1, t1, e1, o1⟩ := hd.types k h1
  obtain ⟨_, c2, t2, e2, o2⟩ := hx.types k h2
  rw [e1] at e2
  injection e2 with e2
  injection e2 with _ e2
  subst e2
  rcases o1 with rfl | rfl | rfl <;> rcases o2 with h | h | h <;> cases h
section
variable {B : Nat} {w w' : World} {gd gx : Nat} {sd wd cd sx wx cx : Value} {D D' : Dk}
/-- x was turned: d stands -/
theorem Two.turnX (h : Two B w gd gx sd wd cd sx wx cx D) (hl : LeftX B w w' gx sx wx D') : ∃ sx' wx' cx', IsDisk B w' gd sd wd cd D ∧ IsX B w' gx sx' wx' cx' D' ∧ Step (foot gx sx wx) (foot gx sx' wx') w w' := by
  obtain ⟨a, b, c, h1, h2⟩ := hl
  exact ⟨a, b, c, h.d.step h2 (fun k hk hk' => foot_apart h.d h.x k hk' hk) h.x.no5, h1, h2⟩
/-- then d was turned: x stands -/
theorem turnD (hd : IsDisk B w gd sd wd cd D) (hx : IsX B w gx sx wx cx D') (hl : Left B w w' gd sd wd D') : LeftT B w w' gd gx (or2 (foot gd sd wd) (foot gx sx wx)) D' := by
  obtain ⟨a, b, c, h1, h2⟩ := hl
  exact ⟨a, b, c, sx, wx, cx, ⟨h1, hx.step h2 (fun k hk hk' => foot_apart hd hx k hk hk') hd.no5⟩, h2.left⟩
end
theorem LeftT.of_step {B : Nat} {w w1 w2 : World} {gd gx : Nat} {F F1 : Nat → Prop} {D : Dk} (hs : Step F F1 w w1) (h : LeftT B w1 w2 gd gx F1 D) : LeftT B w w2 gd gx F D := by
  obtain ⟨a, b, c, d, e, f, h1, h2⟩ := h
  exact ⟨a, b, c, d, e, f, h1, hs.trans h2⟩
theorem Step.cell {F F' : Nat → Prop} {w w' : World} (h : Step F F' w w') {p : Addr} (hp : p.block < w.heap.size) (hF : ¬ F p.block) : w'.cell? p = w.cell? p := World.cell?_of_block (h.block p.block hp hF)
theorem RB.step {w w' : World} {ac : Option Addr} {m : Nat} {ch : List Int} {F F' : Nat → Prop} (h : RB w ac m ch F) (hs : Step F F' w w') : RB w' ac m ch F' :=
  ⟨h.l, h.b, fun hp => by
    obtain ⟨ad, e, h1, h2, h3⟩ := h.c hp
    refine ⟨ad, e, Nat.lt_of_lt_of_le h1 hs.size, fun hk => ?_, fun k hk => ?_⟩
    · rcases hs.new _ hk with h4 | h4
      · exact h2 h4
      · omega
    · rw [hs.cell (by rw [add_block]; exact h1) (by rw [add_block]; exact h2)]; exact h3 k hk⟩
theorem RB.less {w : World} {ac : Option Addr} {m : Nat} {ch : List Int} {F F' : Nat → Prop} (h : RB w ac m ch F) (hF : ∀ k, F' k → F k) : RB w ac m ch F' :=
  ⟨h.l, h.b, fun hp => by
    obtain ⟨ad, e, h1, h2, h3⟩ := h.c hp
    exact ⟨ad, e, h1, fun hk => h2 (hF _ hk), h3⟩⟩
theorem RB.below {w w' : World} {ac : Option Addr} {m : Nat} {ch : List Int} {F : Nat → Prop} (h : RB w ac m ch F) (hb : Below w.heap.size w w') : RB w' ac m ch F := h.step (Step.ofBelow hb)
/-- bytes that were made -/
theorem RB.made {w : World} {bb off m : Nat} {b full : List Int} {F : Nat → Prop} (hr : w.heap[bb]? = some (.cells (sec full).toArray 5 (0, 0))) (hb : b = full.drop off) (hl : b.length = m) (hm : m ≤ 140737488351232) (hby : byteL full) (hF : ∀ k, F k → ∃ cells t, w.heap[k]? = some (.cells cells t (0, 0)) ∧ t ≠ 5) :
    RB w (some ⟨bb, off, none⟩) m b F := by
  refine ⟨⟨hl, hm⟩, ?_, fun hp => ⟨_, rfl, (Array.getElem?_eq_some_iff.1 hr).1, fun hk => ?_, fun k hk => ?_⟩⟩
  · subst hb; exact fun c hc => hby c (List.mem_of_mem_drop hc)
  · obtain ⟨c, t, h1, h2⟩ := hF _ hk
    have h1' : w.heap[bb]? = _ := h1
    rw [hr] at h1'
    injection h1' with h1'
    injection h1' with _ h1'
    exact h2 h1'.symm
  · have hk2 : k < b.length := by omega
    rw [add_none, cell_of_row w bb (off + k) _ 5 (0, 0) hr]
    subst hb
    rw [List.length_drop] at hk2
    rw [List.getElem?_toArray]
    simp only [sec, List.getElem?_map, List.getD_eq_getElem?_getD, List.getElem?_drop]
    rw [List.getElem?_eq_getElem (show off + k < full.length by omega)]
    rfl

def wbuf (by_ : Int) : List Int := if by_ = 77 then (fillK by_ 64).drop 1 else fillK by_ 64
def doD (D : Dk) (kind by_ : Int) (at_ : Int) (b : List Int) : Dk :=
  if kind % 8 = 0 ∨ kind % 8 = 1 ∨ kind % 8 = 2 then (writeD D at_ (wbuf by_)).2
  else if kind % 8 = 3 then (flushD D).2
  else if kind % 8 = 4 then (if D.down then D else fallD D b)
  else if kind % 8 = 5 then (if at_ < 1 then D else { D with steps := at_, choice := b })
  else { D with down := false }
end Go.Proofs.Ytbimbgefclohlaa
