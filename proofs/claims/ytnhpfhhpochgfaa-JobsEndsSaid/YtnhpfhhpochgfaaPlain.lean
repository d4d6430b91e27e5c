/- Plain lists and numbers, no program in sight: what the walks and the laws lean on. No condition. -/
import Derived.Test.YtnhpfhhpochgfaaCmp
namespace Go.Sy
set_option linter.unusedVariables false

theorem get_some {α : Type} {l : List α} {k : Nat} (h : k < l.length) : ∃ x, l[k]? = some x := ⟨l[k], by simp [h]⟩
theorem get_lt {α : Type} {l : List α} {k : Nat} {x : α} (h : l[k]? = some x) : k < l.length := (List.getElem?_eq_some_iff.1 h).1
theorem mem_of_get {α : Type} {l : List α} {k : Nat} {x : α} (h : l[k]? = some x) : x ∈ l := List.mem_of_getElem? h

theorem flat_len {α β : Type} {k : Nat} (f : α → List β) (hf : ∀ x, (f x).length = k) : ∀ l : List α, (l.flatMap f).length = l.length * k
  | [] => by simp
  | x :: l => by simp only [List.flatMap_cons, List.length_append, hf, flat_len f hf l, List.length_cons, Nat.add_mul]; omega
theorem flat_get {α β : Type} {k : Nat} (f : α → List β) (hf : ∀ x, (f x).length = k) : ∀ (l : List α) (i : Nat) (x : α) (j : Nat), l[i]? = some x → j < k → (l.flatMap f)[i * k + j]? = (f x)[j]?
  | [], i, x, j, h, hj => by simp at h
  | y :: l, 0, x, j, h, hj => by
    simp at h; subst h
    rw [List.flatMap_cons, List.getElem?_append_left (by rw [hf]; omega)]
    simp
  | y :: l, i + 1, x, j, h, hj => by
    simp at h
    have := flat_get f hf l i x j h hj
    rw [List.flatMap_cons, List.getElem?_append_right (by rw [hf, Nat.add_mul]; omega), hf]
    rw [show (i + 1) * k + j - k = i * k + j by rw [Nat.add_mul]; omega]
    exact this
/-- the cells of an element -/
theorem flat_vs {α β : Type} {k : Nat} {f : α → List β} (hf : ∀ x, (f x).length = k) {l : List α} {i : Nat} {x : α} (h : l[i]? = some x) : ∀ j v, (f x)[j]? = some v → (l.flatMap f)[i * k + j]? = some v := by
  intro j v hv
  have hj := get_lt hv
  rw [hf] at hj
  rw [flat_get f hf l i x j h hj]; exact hv
theorem flat_drop {α β : Type} {k : Nat} (f : α → List β) (hf : ∀ x, (f x).length = k) : ∀ (l : List α) (n : Nat), (l.flatMap f).drop (n * k) = (l.drop n).flatMap f
  | [], n => by simp
  | x :: l, 0 => by simp
  | x :: l, n + 1 => by
    rw [List.flatMap_cons, List.drop_succ_cons, ← flat_drop f hf l n, Nat.add_mul, Nat.one_mul, Nat.add_comm, ← List.drop_drop, ← hf x, List.drop_left]
theorem flat_take {α β : Type} {k : Nat} (f : α → List β) (hf : ∀ x, (f x).length = k) : ∀ (l : List α) (n : Nat), (l.flatMap f).take (n * k) = (l.take n).flatMap f
  | [], n => by simp
  | x :: l, 0 => by simp
  | x :: l, n + 1 => by
    rw [List.flatMap_cons, List.take_succ_cons, List.flatMap_cons, ← flat_take f hf l n, List.take_append, List.take_of_length_le (by rw [hf, Nat.add_mul]; omega), hf, Nat.add_mul, Nat.one_mul, Nat.add_sub_cancel]
theorem flat_set {α β : Type} {k : Nat} (f : α → List β) (hf : ∀ x, (f x).length = k) : ∀ (l : List α) (n : Nat) (y : α), n < l.length → (l.flatMap f).take (n * k) ++ f y ++ (l.flatMap f).drop (n * k + k) = (l.set n y).flatMap f
  | [], n, y, h => by simp at h
  | x :: l, 0, y, h => by
    have e : 0 * k + k = (f x).length := by rw [hf]; omega
    rw [e, List.flatMap_cons, List.drop_left]; simp
  | x :: l, n + 1, y, h => by
    have h' := flat_set f hf l n y (by simpa using h)
    have e1 : (n + 1) * k = (f x).length + n * k := by rw [hf, Nat.add_mul]; omega
    have e2 : (n + 1) * k + k = (f x).length + (n * k + k) := by rw [e1]; omega
    rw [List.set_cons_succ, List.flatMap_cons, List.flatMap_cons, ← h', e2, e1, List.take_length_add_append, List.drop_length_add_append]
    simp
theorem flat_one {α β : Type} {f : α → β} {l : List α} {i : Nat} {x : α} (h : l[i]? = some x) : (l.map f)[i]? = some (f x) := by simp [h]

/-- the place of the first one; -1: there is none -/
def fidx {α : Type} (p : α → Bool) (l : List α) : Int := match l.findIdx? p with | some i => (i : Int) | none => -1
theorem fidx_none {α : Type} {p : α → Bool} {l : List α} (h : ∀ (j : Nat) y, l[j]? = some y → p y = false) : fidx p l = -1 := by
  have : l.findIdx? p = none := by
    rw [List.findIdx?_eq_none_iff]
    intro x hx
    obtain ⟨j, hj⟩ := List.mem_iff_getElem?.1 hx
    exact h j x hj
  simp [fidx, this]
theorem fidx_some {α : Type} {p : α → Bool} {l : List α} {k : Nat} {x : α} (hx : l[k]? = some x) (hp : p x = true) (h : ∀ j, j < k → ∀ y, l[j]? = some y → p y = false) : fidx p l = (k : Int) := by
  have : l.findIdx? p = some k := by
    rw [List.findIdx?_eq_some_iff_getElem]
    have hk := get_lt hx
    refine ⟨hk, ?_, fun j hj => ?_⟩
    · have : l[k] = x := by simpa [hk] using hx
      rw [this]; exact hp
    · have := h j hj l[j] (by simp [Nat.lt_trans hj hk])
      simp [this]
  simp [fidx, this]
theorem all_succ {α : Type} {l : List α} {k : Nat} {x : α} {p : α → Bool} (h : ∀ j, j < k → ∀ y, l[j]? = some y → p y = false) (hx : l[k]? = some x) (hp : p x = false) : ∀ j, j < k + 1 → ∀ y, l[j]? = some y → p y = false := by
  intro j hj y hy
  by_cases e : j = k
  · subst e; rw [hx] at hy; obtain rfl := Option.some.inj hy; exact hp
  · exact h j (by omega) y hy

/-! rows of whole numbers -/
def iv (l : List Int) : List Value := l.map fun n => Value.int .i64 n
theorem iv_len (l : List Int) : (iv l).length = l.length := by simp [iv]
theorem iv_app (l m : List Int) : iv (l ++ m) = iv l ++ iv m := by simp [iv]
theorem iv_one (l : List Int) : ∀ u ∈ iv l, u.oneCell' = true := by
  intro u hu
  obtain ⟨b, _, rfl⟩ := List.mem_map.1 hu
  rfl
theorem iv_vs {l : List Int} {i : Nat} {b : Int} (h : l[i]? = some b) : (iv l)[i]? = some (Value.int .i64 b) := by simp [iv, h]
theorem iv_drop (l : List Int) (k : Nat) : (iv l).drop (k * 1) = iv (l.drop k) := by simp [iv]
theorem iv_take (l : List Int) (k : Nat) : (iv l).take (k * 1) = iv (l.take k) := by simp [iv]
theorem map_set {α β : Type} (f : α → β) (l : List α) (k : Nat) (y : α) (h : k < l.length) : (l.map f).take k ++ [f y] ++ (l.map f).drop (k + [f y].length) = (l.set k y).map f := by
  rw [List.map_set, List.set_eq_take_append_cons_drop, if_pos (by simpa using h)]
  simp
theorem iv_set {l : List Int} {k : Nat} (y : Int) (h : k < l.length) : spl (iv l) k [.int .i64 y] = iv (l.set k y) := map_set _ l k y h

/-! events -/
structure Ev where
  id : ByteArray
  pipe : Int
deriving DecidableEq
def evc (e : Ev) : List Value := [.string e.id, .int .i64 e.pipe]
def evs (l : List Ev) : List Value := l.flatMap evc
theorem evc_len (e : Ev) : (evc e).length = 2 := rfl
theorem evs_vs {l : List Ev} {i : Nat} {x : Ev} (h : l[i]? = some x) : ∀ j v, [Value.string x.id, Value.int .i64 x.pipe][j]? = some v → (evs l)[i * 2 + j]? = some v := flat_vs (f := evc) evc_len h
theorem evs_drop (l : List Ev) (k : Nat) : (evs l).drop (k * 2) = evs (l.drop k) := flat_drop evc evc_len l k
theorem evs_take (l : List Ev) (k : Nat) : (evs l).take (k * 2) = evs (l.take k) := flat_take evc evc_len l k
theorem evs_set {l : List Ev} {k : Nat} (y : Ev) (h : k < l.length) : spl (evs l) (k * 2) [.string y.id, .int .i64 y.pipe] = evs (l.set k y) := flat_set evc evc_len l k y h
theorem evs_len (l : List Ev) : (evs l).length = l.length * 2 := flat_len evc evc_len l
theorem evs_take_succ {l : List Ev} {k : Nat} {x : Ev} (hx : l[k]? = some x) : evs (l.take k) ++ [.string x.id, .int .i64 x.pipe] = evs (l.take (k + 1)) := by
  obtain ⟨h1, h2⟩ := List.getElem?_eq_some_iff.1 hx
  rw [List.take_succ_eq_append_getElem h1, h2]
  simp [evs, evc]
/-- two rows, one by one -/
theorem eq_succ {α : Type} {l m : List α} {k : Nat} {x y : α} (h : ∀ j, j < k → l[j]? = m[j]?) (hx : l[k]? = some x) (hy : m[k]? = some y) (e : x = y) : ∀ j, j < k + 1 → l[j]? = m[j]? := by
  intro j hj
  by_cases e' : j = k
  · subst e'; rw [hx, hy, e]
  · exact h j (by omega)
theorem eq_all {α : Type} {l m : List α} {k : Nat} (h : ∀ j, j < k → l[j]? = m[j]?) (hl : l.length = m.length) (hk : l.length ≤ k) : l = m := by
  apply List.ext_getElem?
  intro j
  rcases Nat.lt_or_ge j k with h' | h'
  · exact h j h'
  · rw [List.getElem?_eq_none (by omega), List.getElem?_eq_none (by omega)]
theorem ne_at {α : Type} {l m : List α} {k : Nat} {x y : α} (hx : l[k]? = some x) (hy : m[k]? = some y) (e : x ≠ y) : l ≠ m := by
  intro h; subst h; rw [hx] at hy; exact e (Option.some.inj hy)
theorem toList_beq {s t : ByteArray} : (s.toList == t.toList) = decide (s = t) := by
  rw [Go.ByteArray.toList_eq, Go.ByteArray.toList_eq]
  by_cases h : s = t
  · subst h; simp
  · have : s.data.toList ≠ t.data.toList := fun e => h (ByteArray.ext (Array.toList_inj.1 e))
    rw [beq_eq_false_iff_ne.2 this]; simp [h]
theorem allEq_ev {x y : Ev} : allEq [.string x.id, .int .i64 x.pipe] [.string y.id, .int .i64 y.pipe] = decide (x = y) := by
  obtain ⟨a, p⟩ := x
  obtain ⟨b, q⟩ := y
  simp only [allEq, ceq, Ev.mk.injEq, Bool.and_true, Bool.decide_and, toList_beq]
  have h2 : (p == q) = decide (p = q) := by
    rw [Bool.eq_iff_iff]
    simp
  rw [h2]
end Go.Sy
