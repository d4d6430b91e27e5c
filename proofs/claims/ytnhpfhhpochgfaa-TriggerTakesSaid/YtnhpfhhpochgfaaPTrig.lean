/- Plain: words, events that are taken. No program in sight; no condition. -/
import Derived.Test.YtnhpfhhpochgfaaPRead
import Derived.Laws.Strings
namespace Go.Sy
set_option linter.unusedVariables false

/-- is a byte one of a word's? -/
def wOk (b : UInt8) : Bool := decide (33 ≤ b.toNat) && decide (b.toNat ≤ 126)
/-- is a text a word? -/
def isWord (s : ByteArray) : Bool := s.data.toList.all wOk && decide (0 < s.size) && decide (s.size ≤ 64)
theorem all_of_hall {l : List UInt8} {k : Nat} {p : UInt8 → Bool} (h : ∀ j, j < k → ∀ c, l[j]? = some c → p c = true) (hk : l.length ≤ k) : l.all p = true := by
  rw [List.all_eq_true]
  intro x hx
  obtain ⟨j, hj⟩ := List.mem_iff_getElem?.1 hx
  exact h j (by have := get_lt hj; omega) x hj
theorem all_bad {l : List UInt8} {k : Nat} {p : UInt8 → Bool} {x : UInt8} (hx : l[k]? = some x) (h : p x = false) : l.all p = false := by
  rw [Bool.eq_false_iff]
  intro ha
  rw [List.all_eq_true] at ha
  have := ha x (mem_of_get hx)
  rw [h] at this; cases this
theorem word_bad {s : ByteArray} {k : Nat} {x : UInt8} (hx : s.data.toList[k]? = some x) (h : x.toNat < 33 ∨ 126 < x.toNat) : isWord s = false := by
  unfold isWord
  rw [all_bad hx (by unfold wOk; rcases h with h | h <;> simp <;> omega)]
  rfl
theorem ok_succ {l : List UInt8} {k : Nat} {p : UInt8 → Bool} {x : UInt8} (hall : ∀ j, j < k → ∀ c, l[j]? = some c → p c = true) (hx : l[k]? = some x) (h : p x = true) : ∀ j, j < k + 1 → ∀ c, l[j]? = some c → p c = true := by
  intro j hj c hc
  rcases Nat.lt_or_ge j k with h' | h'
  · exact hall j h' c hc
  · have : j = k := by omega
    subst this
    rw [hx] at hc; cases hc; exact h
theorem word_all {s : ByteArray} {k : Nat} (hall : ∀ j, j < k → ∀ c, s.data.toList[j]? = some c → wOk c = true) (hk : s.size ≤ k) : isWord s = (decide (0 < s.size) && decide (s.size ≤ 64)) := by
  unfold isWord
  rw [all_of_hall hall (by rw [← size_eq]; exact hk)]
  rfl
theorem nil_iff {s : ByteArray} : (s.toList == ByteArray.toList ⟨#[]⟩) = decide (s.size = 0) := by
  rw [Go.ByteArray.toList_eq, Go.ByteArray.toList_eq, size_eq]
  cases s.data.toList <;> simp
theorem wok_of {x : UInt8} (h : 33 ≤ x.toNat) (h' : x.toNat ≤ 126) : wOk x = true := by simp [wOk, h, h']

theorem evs_one (l : List Ev) : ∀ u ∈ evs l, u.oneCell' = true := by
  intro u hu
  obtain ⟨e, _, he⟩ := List.mem_flatMap.1 hu
  simp only [evc, List.mem_cons, List.not_mem_nil, or_false] at he
  rcases he with rfl | rfl <;> rfl
theorem one_drop {l : List Value} {n : Nat} (h : ∀ u ∈ l, u.oneCell' = true) : ∀ u ∈ l.drop n, u.oneCell' = true := fun u hu => h u (List.mem_of_mem_drop hu)
theorem evs_app (l m : List Ev) : evs (l ++ m) = evs l ++ evs m := List.flatMap_append
theorem evs_drop1 (l : List Ev) : (evs l).drop 2 = evs (l.drop 1) := by
  cases l with
  | nil => rfl
  | cons e l => rfl
theorem spl_shift {A B vs : List Value} (h : A.length = B.length + vs.length) : spl (spl A 0 B) B.length vs = B ++ vs := by
  have e0 : spl A 0 B = B ++ A.drop B.length := by simp [spl]
  rw [e0]
  unfold spl
  rw [show (B ++ A.drop B.length).take B.length = B by simp, List.drop_eq_nil_of_le (by simp; omega), List.append_nil]
/-- all move on by one, and one comes last -/
theorem evs_shift {xs : List Ev} {id : ByteArray} {p : Int} (h : 1 ≤ xs.length) :
    spl (spl (evs xs) 0 (evs (xs.drop 1))) ((xs.length - 1) * 2) [.string id, .int .i64 p] = evs (xs.drop 1 ++ [⟨id, p⟩]) := by
  have l1 : (evs (xs.drop 1)).length = (xs.length - 1) * 2 := by rw [evs_len, List.length_drop]
  have l0 := evs_len xs
  rw [evs_app, ← l1, spl_shift (by rw [l0, l1]; simp; omega)]
  rfl
/-! ### events -/
def sameId (id : ByteArray) (x : Ev) : Bool := x.id.toList == id.toList
def takeC (xs : List Ev) (id : ByteArray) (p : Int) : Int :=
  if isWord id = false then 63 else if p < 0 ∨ 2147483647 < p then 1 else if 0 ≤ fidx (sameId id) xs then 6 else 0
def takeL (xs : List Ev) (id : ByteArray) (p : Int) : List Ev :=
  if takeC xs id p = 0 then (if xs.length = 8 then xs.drop 1 ++ [⟨id, p⟩] else xs ++ [⟨id, p⟩]) else xs
theorem takeL_len {xs : List Ev} {id : ByteArray} {p : Int} (h : xs.length ≤ 8) : (takeL xs id p).length ≤ 8 := by
  unfold takeL
  split
  · split
    · simp; omega
    · simp; omega
  · exact h
theorem fidx_range {α : Type} {p : α → Bool} {l : List α} : fidx p l = -1 ∨ ∃ k x, fidx p l = ((k : Nat) : Int) ∧ l[k]? = some x ∧ p x = true := by
  unfold fidx
  split
  · rename_i i hi
    right
    rw [List.findIdx?_eq_some_iff_getElem] at hi
    obtain ⟨h1, h2, _⟩ := hi
    exact ⟨i, l[i], rfl, by simp [h1], h2⟩
  · exact .inl rfl
theorem fidx_ge {α : Type} {p : α → Bool} {l : List α} (h : 0 ≤ fidx p l) : ∃ k x, fidx p l = ((k : Nat) : Int) ∧ l[k]? = some x ∧ p x = true := by
  rcases fidx_range (p := p) (l := l) with h' | h'
  · omega
  · exact h'
/-- what was made of an event, and whether it was taken -/
def seenE (xs : List Ev) (id : ByteArray) : Option Ev := if 0 ≤ fidx (sameId id) xs then xs[(fidx (sameId id) xs).toNat]? else none
theorem seen_none {xs : List Ev} {id : ByteArray} (h : fidx (sameId id) xs < 0) : seenE xs id = none := if_neg (by omega)
theorem seen_some {xs : List Ev} {id : ByteArray} {k : Nat} {x : Ev} (hk : fidx (sameId id) xs = ((k : Nat) : Int)) (hx : xs[k]? = some x) : seenE xs id = some x := by
  unfold seenE
  rw [if_pos (by omega), hk, Int.toNat_natCast, hx]
theorem own_none {w : World} {t : TypeId} {k : Nat} {a : Option Addr} {n c : Nat} {cs : List Value} (h : Own w t k a n c cs) (ha : a.isNone = true) : a = none ∧ n = 0 ∧ c = 0 ∧ cs = [] := by
  rcases h.cases with h | ⟨g, cur, rfl, _⟩
  · exact h
  · simp at ha
/-- the bytes of events: behind their number, of the first k -/
def evB (xs : List Ev) (k : Nat) : List UInt8 := (xs.take k).foldl (fun b e => cntL (strL b e.id.data.toList) e.pipe) (cntL [] (xs.length : Int))
def evBytes (xs : List Ev) : List UInt8 := evB xs xs.length
theorem evB_zero (xs : List Ev) : evB xs 0 = cntL [] (xs.length : Int) := by simp [evB]
theorem evB_succ {xs : List Ev} {k : Nat} {x : Ev} (hx : xs[k]? = some x) : evB xs (k + 1) = cntL (strL (evB xs k) x.id.data.toList) x.pipe := by
  unfold evB
  obtain ⟨h1, h2⟩ := List.getElem?_eq_some_iff.1 hx
  rw [List.take_succ_eq_append_getElem h1, List.foldl_append, h2]
  rfl
def Good (xs : List Ev) : Prop := xs.length ≤ 8 ∧ ∀ e ∈ xs, isWord e.id = true ∧ 0 ≤ e.pipe ∧ e.pipe ≤ 2147483647
theorem good_nil : Good [] := ⟨by decide, fun _ h => by cases h⟩
theorem word_size {s : ByteArray} (h : isWord s = true) : s.size ≤ 64 := by
  simp only [isWord, Bool.and_eq_true, decide_eq_true_eq] at h
  exact h.2
theorem take_zero {xs : List Ev} {id : ByteArray} {p : Int} (h : takeC xs id p = 0) : isWord id = true ∧ 0 ≤ p ∧ p ≤ 2147483647 ∧ fidx (sameId id) xs < 0 := by
  unfold takeC at h
  split at h
  · omega
  · split at h
    · omega
    · split at h
      · omega
      · rename_i h1 h2 h3
        exact ⟨by simpa using h1, by omega, by omega, by omega⟩
theorem good_take {xs : List Ev} {id : ByteArray} {p : Int} (h : Good xs) : Good (takeL xs id p) := by
  refine ⟨takeL_len h.1, ?_⟩
  unfold takeL
  split
  · rename_i hc
    obtain ⟨h1, h2, h3, _⟩ := take_zero hc
    split
    · intro e he
      rcases List.mem_append.1 he with he | he
      · exact h.2 e (List.mem_of_mem_drop he)
      · simp at he; subst he; exact ⟨h1, h2, h3⟩
    · intro e he
      rcases List.mem_append.1 he with he | he
      · exact h.2 e he
      · simp at he; subst he; exact ⟨h1, h2, h3⟩
  · exact h.2
theorem evB_len {xs : List Ev} (h : Good xs) (k : Nat) (hk : k ≤ xs.length) : (evB xs k).length ≤ 10 + 84 * k := by
  induction k with
  | zero => rw [evB_zero]; have := cntL_len [] (xs.length : Int); simpa using this
  | succ k ih =>
    obtain ⟨x, hx⟩ := get_some (l := xs) (k := k) (by omega)
    rw [evB_succ hx]
    have h1 := cntL_len (strL (evB xs k) x.id.data.toList) x.pipe
    have h2 := strL_len (evB xs k) x.id.data.toList
    have h3 := word_size (h.2 x (mem_of_get hx)).1
    rw [size_eq] at h3
    have := ih (by omega)
    omega
/-! loading -/
noncomputable def ldP : Nat → Rd → List Ev → Option (Rd × List Ev)
  | 0, r, xs => some (r, xs)
  | n + 1, r, xs =>
    if takeC xs (mkS (mStr r 64).1) (mCount (mStr r 64).2 2147483647).1 = 0 then
      ldP n (mCount (mStr r 64).2 2147483647).2 (takeL xs (mkS (mStr r 64).1) (mCount (mStr r 64).2 2147483647).1) else none
open Classical in
noncomputable def loadE (bs : List UInt8) : Option (List Ev) := match ldP (mCount (rdP (mkS bs) 0) 8).1 (mCount (rdP (mkS bs) 0) 8).2 [] with
  | some (r, xs) => if r = some [] then some xs else none
  | none => none
theorem rdP_zero {bs : List UInt8} : rdP (mkS bs) 0 = some bs := by
  rw [rdP_some (by omega)]; rfl
theorem rdP_done {s : ByteArray} {n : Nat} : rdP s n = some [] ↔ n = s.size := by
  by_cases h : s.size < n
  · rw [rdP_none h]; simp; omega
  · rw [rdP_some h]
    simp only [Option.some.injEq, List.drop_eq_nil_iff, ← size_eq]
    omega
theorem ld_step {N k : Nat} {r : Rd} {xs : List Ev} (hk : k < N) (h0 : takeC xs (mkS (mStr r 64).1) (mCount (mStr r 64).2 2147483647).1 = 0) :
    ldP (N - k) r xs = ldP (N - (k + 1)) (mCount (mStr r 64).2 2147483647).2 (takeL xs (mkS (mStr r 64).1) (mCount (mStr r 64).2 2147483647).1) := by
  obtain ⟨m, hm⟩ : ∃ m, N - k = m + 1 := ⟨N - (k + 1), by omega⟩
  have e : N - (k + 1) = m := by omega
  rw [hm, e, ldP, if_pos h0]
theorem ld_stop {N k : Nat} {r : Rd} {xs : List Ev} (hk : k < N) (h0 : takeC xs (mkS (mStr r 64).1) (mCount (mStr r 64).2 2147483647).1 ≠ 0) : ldP (N - k) r xs = none := by
  obtain ⟨m, hm⟩ : ∃ m, N - k = m + 1 := ⟨N - (k + 1), by omega⟩
  rw [hm, ldP, if_neg h0]
theorem load_stop {bs : List UInt8} (h : ldP (mCount (rdP (mkS bs) 0) 8).1 (mCount (rdP (mkS bs) 0) 8).2 [] = none) : loadE bs = none := by
  unfold loadE
  rw [h]
theorem load_end {bs : List UInt8} {k n : Nat} {xs : List Ev} (hk : (mCount (rdP (mkS bs) 0) 8).1 ≤ k) (h : ldP ((mCount (rdP (mkS bs) 0) 8).1 - k) (rdP (mkS bs) n) xs = ldP (mCount (rdP (mkS bs) 0) 8).1 (mCount (rdP (mkS bs) 0) 8).2 []) :
    loadE bs = if n = bs.length then some xs else none := by
  have e : (mCount (rdP (mkS bs) 0) 8).1 - k = 0 := by omega
  rw [e, ldP] at h
  have hd := rdP_done (s := mkS bs) (n := n)
  rw [mkS_size] at hd
  unfold loadE
  rw [← h]
  by_cases hn : n = bs.length
  · rw [if_pos hn]; simp only []; rw [if_pos (hd.2 hn)]
  · rw [if_neg hn]; simp only []; rw [if_neg (fun h' => hn (hd.1 h'))]
end Go.Sy
