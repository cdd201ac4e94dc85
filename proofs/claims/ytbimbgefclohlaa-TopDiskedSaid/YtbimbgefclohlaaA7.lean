/- One part of the proof that postmarktop.TopDisked returns true for every input and that its input reads behind the call as it read before (theorem topDisked_holds in YtbimbgefclohlaaC31). The laws of this text have their conditions in their own statements; the theorem that is claimed has none. -/
import Derived.Test.YtbimbgefclohlaaA6
set_option linter.unusedVariables false
set_option linter.unusedSimpArgs false
namespace Go.Proofs.Ytbimbgefclohlaa
open Go.RowKit

/-! ### lists of equal rows, flat -/
section
variable {α β : Type} {f : α → List β} {L : Nat}
theorem flat_length : ∀ {l : List α}, (∀ x ∈ l, (f x).length = L) → (l.flatMap f).length = l.length * L
  | [], _ => by simp
  | a :: l, h => by
    rw [List.flatMap_cons, List.length_append, h a List.mem_cons_self, flat_length (l := l) (fun x hx => h x (List.mem_cons_of_mem _ hx)), List.length_cons, Nat.add_mul]
    omega
theorem flat_take : ∀ {l : List α} (k : Nat), (∀ x ∈ l, (f x).length = L) → (l.flatMap f).take (k * L) = (l.take k).flatMap f
  | [], k, _ => by simp
  | a :: l, 0, _ => by simp
  | a :: l, k + 1, h => by
    have ha := h a List.mem_cons_self
    rw [List.flatMap_cons, List.take_succ_cons, List.flatMap_cons, Nat.add_mul, Nat.one_mul, Nat.add_comm, ← ha, List.take_length_add_append, ha, flat_take k (fun x hx => h x (List.mem_cons_of_mem _ hx))]
theorem flat_drop : ∀ {l : List α} (k : Nat), (∀ x ∈ l, (f x).length = L) → (l.flatMap f).drop (k * L) = (l.drop k).flatMap f
  | [], k, _ => by simp
  | a :: l, 0, _ => by simp
  | a :: l, k + 1, h => by
    have ha := h a List.mem_cons_self
    rw [List.flatMap_cons, List.drop_succ_cons, Nat.add_mul, Nat.one_mul, Nat.add_comm, ← ha, List.drop_length_add_append, ha, flat_drop k (fun x hx => h x (List.mem_cons_of_mem _ hx))]
theorem flat_get {l : List α} (h : ∀ x ∈ l, (f x).length = L) (k j : Nat) (hk : k < l.length) (hj : j < L) : (l.flatMap f)[k * L + j]? = (f l[k])[j]? := by
  rw [← List.getElem?_drop, flat_drop k h, List.drop_eq_getElem_cons hk, List.flatMap_cons, List.getElem?_append_left (by rw [h _ (List.getElem_mem _)]; exact hj)]
/-- one row of a flat list turned from inside -/
theorem flat_set {l : List α} (h : ∀ x ∈ l, (f x).length = L) (k : Nat) (hk : k < l.length) (x : α) (n : Nat) (hn : n ≤ L) (ys : List β) (hy : ys.length = n) (hx : f x = ys ++ (f l[k]).drop n) :
    (l.flatMap f).take (k * L) ++ ys ++ (l.flatMap f).drop (k * L + n) = (l.set k x).flatMap f := by
  rw [flat_take k h, ← List.drop_drop, flat_drop k h, List.drop_eq_getElem_cons hk, List.flatMap_cons, List.drop_append_of_le_length (by rw [h _ (List.getElem_mem _)]; exact hn)]
  rw [List.set_eq_take_append_cons_drop, if_pos hk, List.flatMap_append, List.flatMap_cons, hx]
  simp
end
theorem splice_take {β : Type} (cur ys : List β) (a n N : Nat) (hy : ys.length = n) (hN : a + n ≤ N) (hc : N ≤ cur.length) :
    (cur.take a ++ ys ++ cur.drop (a + n)).take N = (cur.take N).take a ++ ys ++ (cur.take N).drop (a + n) := by
  rw [List.take_append, List.take_append, List.take_of_length_le (by simp; omega), List.take_of_length_le (l := ys) (by simp; omega), List.take_take, Nat.min_eq_left (by omega), List.drop_take]
  congr 2
  simp only [List.length_append, List.length_take, hy]
  congr 1
  omega

/-! ### the disk, as data -/
structure Dk where
  stays : List (List Int)
  waits : List (Nat × List Int)
  room : Int
  down : Bool
  steps : Int
  choice : List Int
def byteL (l : List Int) : Prop := ∀ c ∈ l, 0 ≤ c ∧ c ≤ 255
structure Dk.Ok (D : Dk) : Prop where
  n : 0 < D.stays.length ∧ D.stays.length ≤ 64
  s : ∀ x ∈ D.stays, x.length = 64 ∧ byteL x
  w : ∀ p ∈ D.waits, p.1 < D.stays.length ∧ p.2.length = 64 ∧ byteL p.2
  r : 0 ≤ D.room ∧ D.waits.length + D.room ≤ 10000
  st : 0 ≤ D.steps ∧ D.steps ≤ 9223372036854775807
  c : byteL D.choice

/-- what a choice leaves of the sectors -/
def putS (s : List (List Int)) (x : Nat × List Int × Nat) : List (List Int) := s.set x.1 (x.2.1.take x.2.2 ++ (s.getD x.1 []).drop x.2.2)
def fallS (s : List (List Int)) (waits : List (Nat × List Int)) (choice : List Int) : List (List Int) := (upto (felem waits choice) waits.length).foldl putS s

theorem sec_append (x y : List Int) : sec (x ++ y) = sec x ++ sec y := by simp [sec]
theorem sec_take (x : List Int) (n : Nat) : sec (x.take n) = (sec x).take n := by simp [sec, List.map_take]
theorem sec_drop (x : List Int) (n : Nat) : sec (x.drop n) = (sec x).drop n := by simp [sec, List.map_drop]
theorem putS_length (s : List (List Int)) (x : Nat × List Int × Nat) : (putS s x).length = s.length := by simp [putS]
theorem putS_ok {s : List (List Int)} {x : Nat × List Int × Nat} (hs : ∀ y ∈ s, y.length = 64 ∧ byteL y) (h1 : x.1 < s.length) (h2 : x.2.1.length = 64 ∧ byteL x.2.1) (h3 : x.2.2 ≤ 64) : ∀ y ∈ putS s x, y.length = 64 ∧ byteL y := by
  intro y hy
  unfold putS at hy
  rcases List.mem_or_eq_of_mem_set hy with hy | rfl
  · exact hs y hy
  · have h4 := hs (s.getD x.1 []) (by rw [List.getD_eq_getElem?_getD, List.getElem?_eq_getElem h1]; exact List.getElem_mem _)
    refine ⟨by rw [List.length_append, List.length_take, List.length_drop]; omega, ?_⟩
    intro c hc
    rcases List.mem_append.1 hc with hc | hc
    · exact h2.2 c (List.mem_of_mem_take hc)
    · exact h4.2 c (List.mem_of_mem_drop hc)
theorem stepC_take {s : List (List Int)} {cur : List Value} {x : Nat × List Int × Nat} (hs : ∀ y ∈ s, y.length = 64) (h1 : x.1 < s.length) (h2 : x.2.1.length = 64) (h3 : x.2.2 ≤ 64)
    (hc : cur.take (s.length * 64) = secs s) (hl : s.length * 64 ≤ cur.length) : (stepC cur x).take ((putS s x).length * 64) = secs (putS s x) := by
  have h5 : (x.1 + 1) * 64 ≤ s.length * 64 := Nat.mul_le_mul_right _ h1
  rw [putS_length]
  unfold stepC
  rw [splice_take cur _ (x.1 * 64) x.2.2 _ (by rw [List.length_take, sec_length, h2]; omega) (by omega) hl, hc]
  unfold secs putS
  refine flat_set (L := 64) (fun y hy => by rw [sec_length]; exact hs y hy) x.1 h1 _ x.2.2 h3 _ (by rw [List.length_take, sec_length, h2]; omega) ?_
  rw [sec_append, sec_take, sec_drop, List.getD_eq_getElem?_getD, List.getElem?_eq_getElem h1]
  rfl
theorem felem_ok {waits : List (Nat × List Int)} {choice : List Int} {n : Nat} (hw : ∀ p ∈ waits, p.1 < n ∧ p.2.length = 64 ∧ byteL p.2) (hc : byteL choice) (j : Nat) (hj : j < waits.length) :
    (felem waits choice j).1 < n ∧ ((felem waits choice j).2.1.length = 64 ∧ byteL (felem waits choice j).2.1) ∧ (felem waits choice j).2.2 ≤ 64 := by
  have hk := kn_range choice hc j
  have hp := hw (waits.getD j (0, [])) (by rw [List.getD_eq_getElem?_getD, List.getElem?_eq_getElem hj]; exact List.getElem_mem _)
  exact ⟨hp.1, hp.2, by simp only [felem]; omega⟩
theorem fall_take {s : List (List Int)} {cur : List Value} {waits : List (Nat × List Int)} {choice : List Int} (hs : ∀ y ∈ s, y.length = 64 ∧ byteL y) (hw : ∀ p ∈ waits, p.1 < s.length ∧ p.2.length = 64 ∧ byteL p.2) (hc : byteL choice)
    (ht : cur.take (s.length * 64) = secs s) (hl : s.length * 64 ≤ cur.length) :
    (fallC cur waits choice).take (s.length * 64) = secs (fallS s waits choice) ∧ (fallS s waits choice).length = s.length ∧ (fallC cur waits choice).length = cur.length ∧ (∀ y ∈ fallS s waits choice, y.length = 64 ∧ byteL y) := by
  unfold fallC fallS
  have key : ∀ k, k ≤ waits.length → ((upto (felem waits choice) k).foldl stepC cur).take (s.length * 64) = secs ((upto (felem waits choice) k).foldl putS s) ∧ ((upto (felem waits choice) k).foldl putS s).length = s.length ∧ ((upto (felem waits choice) k).foldl stepC cur).length = cur.length ∧ (∀ y ∈ (upto (felem waits choice) k).foldl putS s, y.length = 64 ∧ byteL y) := by
    intro k
    induction k with
    | zero => intro _; exact ⟨ht, rfl, rfl, hs⟩
    | succ k ih =>
      intro hk
      obtain ⟨h1, h2, h3, h4⟩ := ih (by omega)
      obtain ⟨e1, e2, e3⟩ := felem_ok hw hc k (by omega)
      simp only [upto_succ, List.foldl_append, List.foldl_cons, List.foldl_nil]
      generalize (upto (felem waits choice) k).foldl stepC cur = C at *
      generalize (upto (felem waits choice) k).foldl putS s = S at *
      generalize felem waits choice k = x at *
      have e1' : (x.1 + 1) * 64 ≤ s.length * 64 := Nat.mul_le_mul_right _ e1
      have h5 := stepC_take (s := S) (cur := C) (x := x) (fun y hy => (h4 y hy).1) (by omega) e2.1 e3 (by rw [h2]; exact h1) (by rw [h2, h3]; exact hl)
      rw [putS_length, h2] at h5
      exact ⟨h5, by rw [putS_length]; exact h2, by rw [stepC_length _ _ e2.1 e3 (by omega)]; exact h3, putS_ok h4 (by omega) e2 e3⟩
  exact key _ (Nat.le_refl _)
end Go.Proofs.Ytbimbgefclohlaa
