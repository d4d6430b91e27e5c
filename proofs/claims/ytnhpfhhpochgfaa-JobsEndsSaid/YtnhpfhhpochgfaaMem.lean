/- Small laws for walking translated Go code: the heap as facts on whole blocks; what each operation answers. No condition. -/
import Derived.Test.YtnhpfhhpochgfaaCore
import Derived.Lib.AppendStr
import Derived.Laws.BytesString
import Derived.Laws.Tables
import Derived.Laws.Strings
import Derived.Laws.MakeOwn
namespace Go.Sy
set_option linter.unusedVariables false
set_option linter.unusedSectionVars false
set_option linter.unusedSimpArgs false

/-! ### blocks -/
def At (w : World) (b : Nat) (o : Obj) : Prop := w.heap[b]? = some o
/-- Of the blocks of w only those of S may have turned. -/
structure Fr (S : List Nat) (w w' : World) : Prop where
  os : w'.os = w.os
  tape : w'.tape = w.tape
  output : w'.output = w.output
  size : w.heap.size ≤ w'.heap.size
  block : ∀ k, k < w.heap.size → k ∉ S → w'.heap[k]? = w.heap[k]?

theorem Fr.refl (S : List Nat) (w : World) : Fr S w w := ⟨rfl, rfl, rfl, Nat.le_refl _, fun _ _ _ => rfl⟩
theorem Fr.trans {S T U : List Nat} {a b c : World} (h : Fr S a b) (k : Fr T b c) (hs : ∀ x ∈ S, x ∈ U) (ht : ∀ x ∈ T, x < a.heap.size → x ∈ U) : Fr U a c :=
  ⟨k.os.trans h.os, k.tape.trans h.tape, k.output.trans h.output, Nat.le_trans h.size k.size, fun i hi hn =>
    (k.block i (Nat.lt_of_lt_of_le hi h.size) (fun hm => hn (ht i hm hi))).trans (h.block i hi (fun hm => hn (hs i hm)))⟩
theorem Fr.trans0 {S : List Nat} {a b c : World} (h : Fr S a b) (k : Fr [] b c) : Fr S a c := h.trans k (fun _ h => h) (fun _ h => by cases h)
theorem Fr.trans1 {S : List Nat} {a b c : World} (h : Fr S a b) (k : Fr S b c) : Fr S a c := h.trans k (fun _ h => h) (fun _ h _ => h)
/-- a step that turns blocks that are new, or allowed -/
theorem Fr.step {S T : List Nat} {a b c : World} (h : Fr S a b) (k : Fr T b c) (ht : ∀ x ∈ T, x < a.heap.size → x ∈ S) : Fr S a c := h.trans k (fun _ h => h) ht
theorem Fr.mono {S T : List Nat} {a b : World} (h : Fr S a b) (hs : ∀ x ∈ S, x ∈ T) : Fr T a b := ⟨h.os, h.tape, h.output, h.size, fun i hi hn => h.block i hi (fun hm => hn (hs i hm))⟩
theorem Fr.below {a b : World} (h : Fr [] a b) : RowKit.Below a.heap.size a b := ⟨h.os, h.tape, h.output, h.size, fun k hk => h.block k hk (by simp)⟩
theorem Fr.of_below {a b : World} (h : RowKit.Below a.heap.size a b) : Fr [] a b := ⟨h.os, h.tape, h.output, h.size, fun k hk _ => h.block k hk⟩
theorem Fr.alloc (w : World) (o : Obj) : Fr [] w (w.alloc o) := ⟨rfl, rfl, rfl, by simp, fun k hk _ => RowKit.Below.heap_alloc w o k hk⟩
theorem Fr.drew (w : World) : Fr [] w w.drew := ⟨rfl, rfl, rfl, Nat.le_refl _, fun _ _ _ => rfl⟩
theorem Fr.row (w : World) (g : Nat) (cs : Array Value) : Fr [g] w (w.setRow g cs) :=
  ⟨rfl, rfl, rfl, by simp, fun k _ hn => setRow_other w g k cs (fun e => hn (by simp [e]))⟩
def ob (a : Option Addr) : List Nat := match a with | some ad => [ad.block] | none => []
theorem Fr.grown {w w' : World} {a : Option Addr} {n c : Nat} (h : w.grownBy w' (Value.ownBlock (.slice a n c))) : Fr (ob a) w w' := by
  refine ⟨h.os, h.tape, h.output, h.size, fun k hk hn => h.block k hk ?_⟩
  intro he
  apply hn
  cases a with
  | none => simp [Value.ownBlock] at he
  | some ad => simp [Value.ownBlock] at he; simp [ob, he]
theorem Fr.grown0 {w w' : World} (h : w.grownBy w' none) : Fr [] w w' := ⟨h.os, h.tape, h.output, h.size, fun k hk _ => h.block k hk (by simp)⟩
theorem no_new {N : Nat} : ∀ x ∈ ([] : List Nat), x < N → x ∈ ([] : List Nat) := fun _ h => by cases h
theorem one_new {N b : Nat} {S : List Nat} (h : N ≤ b) : ∀ x ∈ [b], x < N → x ∈ S := fun x hx hl => by simp at hx; omega
theorem one_in {N b : Nat} {S : List Nat} (h : b ∈ S) : ∀ x ∈ [b], x < N → x ∈ S := fun x hx _ => by simp at hx; subst hx; exact h

theorem At.lt {w : World} {b : Nat} {o : Obj} (h : At w b o) : b < w.heap.size := (Array.getElem?_eq_some_iff.1 h).1
theorem At.keep {S : List Nat} {w w' : World} {b : Nat} {o : Obj} (h : At w b o) (f : Fr S w w') (hn : b ∉ S) : At w' b o := (f.block b h.lt hn).trans h
theorem At.keep0 {w w' : World} {b : Nat} {o : Obj} (h : At w b o) (f : Fr [] w w') : At w' b o := h.keep f (by simp)
theorem At.keep1 {w w' : World} {b c : Nat} {o : Obj} (h : At w b o) (f : Fr [c] w w') (hn : b ≠ c) : At w' b o := h.keep f (by simpa using hn)
theorem At.new (w : World) (o : Obj) : At (w.alloc o) w.heap.size o := heap_alloc_new w o
theorem At.cell {w : World} {b : Nat} {c : Array Value} {t : TypeId} {f : Nat × Nat} (h : At w b (.cells c t f)) {i : Nat} {v : Value} (hi : c[i]? = some v) : w.cell? ⟨b, i, none⟩ = some v := by
  unfold At at h
  simp [World.cell?, h, hi]
theorem At.inj {w : World} {b : Nat} {o o' : Obj} (h : At w b o) (h' : At w b o') : o = o' := Option.some.inj (h.symm.trans h')
theorem ne_tag {w : World} {b b' : Nat} {c c' : Array Value} {t t' : TypeId} {f f' : Nat × Nat} (h : At w b (.cells c t f)) (h' : At w b' (.cells c' t' f')) (hne : (Nat.beq t t') = false) : b ≠ b' := by
  intro e
  subst e
  have := h.inj h'
  simp only [Obj.cells.injEq] at this
  obtain ⟨_, rfl, _⟩ := this
  simp at hne
theorem ne_age {N b b' : Nat} (h : b < N) (h' : N ≤ b') : b ≠ b' := by omega
theorem ne_age' {N b b' : Nat} (h : b < N) (h' : N ≤ b') : b' ≠ b := by omega
theorem not_in1 {b c : Nat} (h : b ≠ c) : b ∉ [c] := by simpa using h
theorem not_in2 {b c d : Nat} (h : b ≠ c) (h' : b ≠ d) : b ∉ [c, d] := by simp [h, h']

/-! ### what a slice shows -/
def adr (a : Option Addr) : Addr := a.getD ⟨0, 0, none⟩
/-- The flat cells that a slice shows. -/
def Sl (w : World) (a : Option Addr) (cs : List Value) : Prop := ∀ j u, cs[j]? = some u → ∃ ad, a = some ad ∧ w.cell? (ad.add j) = some u
theorem add_block (a : Addr) (n : Nat) : (a.add n).block = a.block := by unfold Addr.add; split <;> rfl
theorem add_add (a : Addr) (n m : Nat) : (a.add n).add m = a.add (n + m) := by
  unfold Addr.add
  by_cases hn : n = 0
  · subst hn; simp
  · by_cases hm : m = 0
    · subst hm; simp
    · simp [hn, hm, Nat.add_assoc]
theorem Fr.cell {S : List Nat} {w w' : World} (f : Fr S w w') {a : Addr} {v : Value} (h : w.cell? a = some v) (hn : a.block ∉ S) : w'.cell? a = some v :=
  (World.cell?_of_block (f.block a.block (World.block_lt_of_cell? w a h) hn)).trans h
theorem Sl.keep {S : List Nat} {w w' : World} {a : Option Addr} {cs : List Value} (h : Sl w a cs) (f : Fr S w w') (hn : ∀ x ∈ ob a, x ∉ S) : Sl w' a cs := by
  intro j u hu
  obtain ⟨ad, rfl, hc⟩ := h j u hu
  exact ⟨ad, rfl, f.cell hc (by rw [add_block]; exact hn _ (by simp [ob]))⟩
theorem Sl.keep0 {w w' : World} {a : Option Addr} {cs : List Value} (h : Sl w a cs) (f : Fr [] w w') : Sl w' a cs := h.keep f (fun _ _ => by simp)
theorem Sl.nil (w : World) (a : Option Addr) : Sl w a [] := fun j u h => by simp at h
theorem Sl.get {w : World} {a : Option Addr} {cs : List Value} (h : Sl w a cs) {j : Nat} {u : Value} (hu : cs[j]? = some u) : w.cell? ((adr a).add j) = some u := by
  obtain ⟨ad, rfl, hc⟩ := h j u hu
  exact hc
theorem Sl.some {w : World} {a : Option Addr} {cs : List Value} (h : Sl w a cs) (hne : 0 < cs.length) : ∃ ad, a = .some ad := by
  obtain ⟨ad, rfl, _⟩ := h 0 cs[0] (by simp [hne])
  exact ⟨ad, rfl⟩
theorem Sl.cut {w : World} {a : Option Addr} {cs : List Value} (h : Sl w a cs) (lo m : Nat) : Sl w (a.map (·.add lo)) ((cs.drop lo).take m) := by
  intro j u hu
  rw [List.getElem?_take] at hu
  split at hu
  · rw [List.getElem?_drop] at hu
    obtain ⟨ad, rfl, hc⟩ := h _ u hu
    exact ⟨ad.add lo, rfl, by rw [add_add]; exact hc⟩
  · cases hu
theorem Sl.take {w : World} {a : Option Addr} {cs : List Value} (h : Sl w a cs) (m : Nat) : Sl w a (cs.take m) := by
  intro j u hu
  rw [List.getElem?_take] at hu
  split at hu
  · exact h j u hu
  · cases hu
theorem Sl.of_at {w : World} {b : Nat} {c : Array Value} {t : TypeId} {f : Nat × Nat} (h : At w b (.cells c t f)) : Sl w (.some ⟨b, 0, none⟩) c.toList := by
  intro j u hu
  refine ⟨_, rfl, ?_⟩
  rw [Addr.add_lit, Nat.zero_add]
  exact h.cell (by simpa using hu)

/-- where a cut of a slice begins -/
def cutA (a : Option Addr) (c l k : Nat) : Option Addr := if c = l then a else a.map (·.add (l * k))
theorem Sl.cutA {w : World} {a : Option Addr} {cs : List Value} {m c k : Nat} (h : Sl w a cs) (hl : cs.length = m * k) (hmc : m ≤ c) (l h' : Nat) (hh : l ≤ h') : Sl w (Sy.cutA a c l k) ((cs.drop (l * k)).take ((h' - l) * k)) := by
  unfold Sy.cutA
  split
  · rename_i he
    subst he
    have : cs.drop (c * k) = [] := List.drop_eq_nil_of_le (by rw [hl]; exact Nat.mul_le_mul_right _ hmc)
    rw [this]; simp [Sl.nil]
  · exact h.cut _ _
theorem Sl.cutA0 {w : World} {a : Option Addr} {cs : List Value} {m c k : Nat} (h : Sl w a cs) (hl : cs.length = m * k) (hmc : m ≤ c) (l : Nat) : Sl w (Sy.cutA a c l k) (cs.drop (l * k)) := by
  unfold Sy.cutA
  split
  · rename_i he
    subst he
    have : cs.drop (c * k) = [] := List.drop_eq_nil_of_le (by rw [hl]; exact Nat.mul_le_mul_right _ hmc)
    rw [this]; simp [Sl.nil]
  · have := h.cut (l * k) (cs.length - l * k)
    rwa [List.take_of_length_le (by simp)] at this
theorem ob_cutA {a : Option Addr} {c l k : Nat} : ob (cutA a c l k) = ob a := by
  unfold cutA
  split
  · rfl
  · cases a <;> simp [ob, add_block]

/-- A row of the program's own, at the head of its block: n elements of k cells show cs; it may be written. -/
def Own (w : World) (t : TypeId) (k : Nat) (a : Option Addr) (n c : Nat) (cs : List Value) : Prop := w.ownsRow 0 t k (.slice a n c) n cs
theorem Own.len {w : World} {t : TypeId} {k : Nat} {a : Option Addr} {n c : Nat} {cs : List Value} (h : Own w t k a n c cs) : cs.length = n * k := h.1
theorem Own.cases {w : World} {t : TypeId} {k : Nat} {a : Option Addr} {n c : Nat} {cs : List Value} (h : Own w t k a n c cs) :
    (a = none ∧ n = 0 ∧ c = 0 ∧ cs = []) ∨ ∃ g cur, a = some ⟨g, 0, none⟩ ∧ At w g (.cells cur t (0, 0)) ∧ n ≤ c ∧ c ≤ maxLen ∧ cur.size = c * k ∧ cur.toList.take (n * k) = cs := by
  obtain ⟨hl, h | ⟨g, cap, cur, hv, _, hg, h1, h2, h3, h4⟩⟩ := h
  · left
    obtain ⟨hv, rfl⟩ := h
    simp only [Value.slice.injEq] at hv
    obtain ⟨rfl, _, rfl⟩ := hv
    exact ⟨rfl, rfl, rfl, List.eq_nil_of_length_eq_zero (by simpa using hl)⟩
  · right
    simp only [Value.slice.injEq, true_and] at hv
    obtain ⟨rfl, rfl⟩ := hv
    exact ⟨g, cur, rfl, hg, h1, h2, h3, h4⟩
theorem Own.mk {w : World} {t : TypeId} {k g n c : Nat} {cur : Array Value} {cs : List Value} (hl : cs.length = n * k) (hg : At w g (.cells cur t (0, 0))) (h1 : n ≤ c) (h2 : c ≤ maxLen)
    (h3 : cur.size = c * k) (h4 : cur.toList.take (n * k) = cs) : Own w t k (some ⟨g, 0, none⟩) n c cs :=
  ⟨hl, .inr ⟨g, c, cur, rfl, Nat.zero_le _, hg, h1, h2, h3, h4⟩⟩
theorem Own.nil (w : World) (t : TypeId) (k : Nat) : Own w t k none 0 0 [] := World.ownsRow_nil w 0 t k
theorem Own.sl {w : World} {t : TypeId} {k : Nat} {a : Option Addr} {n c : Nat} {cs : List Value} (h : Own w t k a n c cs) : Sl w a cs := by
  intro j u hu
  rcases h.cases with ⟨rfl, _, _, rfl⟩ | ⟨g, cur, rfl, _⟩
  · simp at hu
  · exact ⟨_, rfl, h.cells (g := g) rfl j u hu⟩
theorem Own.keep {S : List Nat} {w w' : World} {t : TypeId} {k : Nat} {a : Option Addr} {n c : Nat} {cs : List Value} (h : Own w t k a n c cs) (f : Fr S w w') (hn : ∀ x ∈ ob a, x ∉ S) : Own w' t k a n c cs := by
  rcases h.cases with ⟨rfl, rfl, rfl, rfl⟩ | ⟨g, cur, rfl, hg, h1, h2, h3, h4⟩
  · exact Own.nil w' t k
  · exact Own.mk h.len (hg.keep f (hn _ (by simp [ob]))) h1 h2 h3 h4
theorem Own.keep0 {w w' : World} {t : TypeId} {k : Nat} {a : Option Addr} {n c : Nat} {cs : List Value} (h : Own w t k a n c cs) (f : Fr [] w w') : Own w' t k a n c cs := h.keep f (fun _ _ => by simp)
theorem Own.cap {w : World} {t : TypeId} {k : Nat} {a : Option Addr} {n c : Nat} {cs : List Value} (h : Own w t k a n c cs) : n ≤ c := by
  rcases h.cases with ⟨_, rfl, rfl, _⟩ | ⟨g, cur, _, _, h1, _⟩
  · exact Nat.le_refl _
  · exact h1
/-- its block is of its type -/
theorem Own.tag {w : World} {t : TypeId} {k : Nat} {a : Option Addr} {n c : Nat} {cs : List Value} (h : Own w t k a n c cs) : ∀ x ∈ ob a, ∃ cur f, At w x (.cells cur t f) := by
  intro x hx
  rcases h.cases with ⟨rfl, _⟩ | ⟨g, cur, rfl, hg, _⟩
  · simp [ob] at hx
  · simp [ob] at hx; subst hx; exact ⟨cur, _, hg⟩
theorem Own.lt {w : World} {t : TypeId} {k : Nat} {a : Option Addr} {n c : Nat} {cs : List Value} (h : Own w t k a n c cs) : ∀ x ∈ ob a, x < w.heap.size := by
  intro x hx
  obtain ⟨cur, f, hg⟩ := h.tag x hx
  exact hg.lt
theorem ob_ne {w : World} {a : Option Addr} {t t' : TypeId} {b : Nat} {c : Array Value} {f : Nat × Nat} (h : ∀ x ∈ ob a, ∃ cur f, At w x (.cells cur t f)) (h' : At w b (.cells c t' f)) (hne : (Nat.beq t t') = false) : ∀ x ∈ ob a, x ∉ [b] := by
  intro x hx
  obtain ⟨cur, f', hg⟩ := h x hx
  exact not_in1 (ne_tag hg h' hne)
theorem ob_ne' {w : World} {a : Option Addr} {t t' : TypeId} {b : Nat} {c : Array Value} {f : Nat × Nat} (h : ∀ x ∈ ob a, ∃ cur f, At w x (.cells cur t f)) (h' : At w b (.cells c t' f)) (hne : (Nat.beq t t') = false) : b ∉ ob a := by
  intro hb
  exact ob_ne h h' hne b hb (by simp)

/-- A row that is read: where it lies, how long it is, what it shows; its blocks are there. -/
def Ro (w : World) (a : Option Addr) (n c : Nat) (cs : List Value) : Prop := Sl w a cs ∧ n ≤ c ∧ ∀ x ∈ ob a, x < w.heap.size
theorem Ro.sl {w : World} {a : Option Addr} {n c : Nat} {cs : List Value} (h : Ro w a n c cs) : Sl w a cs := h.1
theorem Ro.cap {w : World} {a : Option Addr} {n c : Nat} {cs : List Value} (h : Ro w a n c cs) : n ≤ c := h.2.1
theorem Ro.lt {w : World} {a : Option Addr} {n c : Nat} {cs : List Value} (h : Ro w a n c cs) : ∀ x ∈ ob a, x < w.heap.size := h.2.2
theorem Ro.keep {S : List Nat} {w w' : World} {a : Option Addr} {n c : Nat} {cs : List Value} (h : Ro w a n c cs) (f : Fr S w w') (hn : ∀ x ∈ ob a, x ∉ S) : Ro w' a n c cs :=
  ⟨h.1.keep f hn, h.2.1, fun x hx => Nat.lt_of_lt_of_le (h.2.2 x hx) f.size⟩
theorem Ro.keep0 {w w' : World} {a : Option Addr} {n c : Nat} {cs : List Value} (h : Ro w a n c cs) (f : Fr [] w w') : Ro w' a n c cs := h.keep f (fun _ _ => by simp)
theorem Own.ro {w : World} {t : TypeId} {k : Nat} {a : Option Addr} {n c : Nat} {cs : List Value} (h : Own w t k a n c cs) : Ro w a n c cs := ⟨h.sl, h.cap, h.lt⟩
theorem Ro.nil (w : World) : Ro w none 0 0 [] := ⟨Sl.nil _ _, Nat.le_refl _, fun _ h => by cases h⟩
theorem Ro.cut {w : World} {a : Option Addr} {cs : List Value} {m c k : Nat} (h : Ro w a m c cs) (hl : cs.length = m * k) (l h' : Nat) (hh : l ≤ h') (hc : h' ≤ c) : Ro w (cutA a c l k) (h' - l) (c - l) ((cs.drop (l * k)).take ((h' - l) * k)) :=
  ⟨h.1.cutA hl h.2.1 l h' hh, by omega, by rw [ob_cutA]; exact h.2.2⟩
theorem Ro.cut0 {w : World} {a : Option Addr} {cs : List Value} {m c k : Nat} (h : Ro w a m c cs) (hl : cs.length = m * k) (l : Nat) (hm : l ≤ m) : Ro w (cutA a c l k) (m - l) (c - l) (cs.drop (l * k)) :=
  ⟨h.1.cutA0 hl h.2.1 l, by have := h.2.1; omega, by rw [ob_cutA]; exact h.2.2⟩

/-! sets of blocks -/
theorem not_app {b : Nat} {S T : List Nat} (h : b ∉ S) (h' : b ∉ T) : b ∉ S ++ T := by simp [h, h']
theorem not_ob_new {a : List Nat} {M b : Nat} (h : ∀ x ∈ a, M ≤ x) (hb : b < M) : b ∉ a := fun hm => by have := h b hm; omega
theorem not_ob_old {a : List Nat} {M b : Nat} (h : ∀ x ∈ a, x < M) (hb : M ≤ b) : b ∉ a := fun hm => by have := h b hm; omega
theorem ob_not1 {a : List Nat} {b : Nat} (h : b ∉ a) : ∀ x ∈ a, x ∉ [b] := fun x hx hm => by simp at hm; subst hm; exact h hx
theorem ob_app {a : List Nat} {S T : List Nat} (h : ∀ x ∈ a, x ∉ S) (h' : ∀ x ∈ a, x ∉ T) : ∀ x ∈ a, x ∉ S ++ T := fun x hx => not_app (h x hx) (h' x hx)
theorem ob_ob_new {a b : List Nat} {M M' : Nat} (h : ∀ x ∈ a, x < M) (h' : ∀ x ∈ b, M' ≤ x) (hm : M ≤ M') : ∀ x ∈ a, x ∉ b := fun x hx hb => by have := h x hx; have := h' x hb; omega
theorem ob_ob_old {a b : List Nat} {M M' : Nat} (h : ∀ x ∈ a, M ≤ x) (h' : ∀ x ∈ b, x < M') (hm : M' ≤ M) : ∀ x ∈ a, x ∉ b := fun x hx hb => by have := h x hx; have := h' x hb; omega
theorem ob_in {a : List Nat} {M : Nat} {S : List Nat} (h : ∀ x ∈ a, x ∈ S) : ∀ x ∈ a, x < M → x ∈ S := fun x hx _ => h x hx
theorem ob_new {a : List Nat} {M M' : Nat} {S : List Nat} (h : ∀ x ∈ a, M' ≤ x) (hm : M ≤ M') : ∀ x ∈ a, x < M → x ∈ S := fun x hx hl => by have := h x hx; omega
theorem app_new {M : Nat} {S T U : List Nat} (h : ∀ x ∈ S, x < M → x ∈ U) (h' : ∀ x ∈ T, x < M → x ∈ U) : ∀ x ∈ S ++ T, x < M → x ∈ U := fun x hx hl => (List.mem_append.1 hx).elim (fun hh => h x hh hl) (fun hh => h' x hh hl)
theorem ob_one_ge {b M : Nat} {o : Nat} {s : Option Nat} (h : M ≤ b) : ∀ x ∈ ob (some ⟨b, o, s⟩), M ≤ x := fun x hx => by simp [ob] at hx; omega
theorem ob_one_lt {b M : Nat} {o : Nat} {s : Option Nat} (h : ∀ x ∈ ob (some ⟨b, o, s⟩), x < M) : b < M := h b (by simp [ob])
theorem ob_age {a a' : List Nat} {M M' : Nat} (h : ∀ x ∈ a, M ≤ x) (h' : ∀ x ∈ a', x ∈ a ∨ M' ≤ x) (hm : M ≤ M') : ∀ x ∈ a', M ≤ x := fun x hx => (h' x hx).elim (h x) (fun hh => by omega)
theorem ob_age_none {a' : Option Addr} {M' : Nat} (h' : ∀ x ∈ ob a', x ∈ ob none ∨ M' ≤ x) : ∀ x ∈ ob a', M' ≤ x := fun x hx => (h' x hx).elim (fun hh => by simp [ob] at hh) id
theorem ob_grow {a a' : List Nat} {M M' : Nat} {S : List Nat} (h : ∀ x ∈ a', x ∈ a ∨ M' ≤ x) (hM : M ≤ M') (hS : ∀ x ∈ a, x ∈ S) : ∀ x ∈ a', x < M → x ∈ S := fun x hx hl => (h x hx).elim (hS x) (fun hh => by omega)
theorem grow_refl {a : List Nat} {M : Nat} : ∀ x ∈ a, x ∈ a ∨ M ≤ x := fun _ h => .inl h
theorem grow_trans {a b c : List Nat} {M M' : Nat} (h : ∀ x ∈ b, x ∈ a ∨ M ≤ x) (h' : ∀ x ∈ c, x ∈ b ∨ M' ≤ x) (hM : M ≤ M') : ∀ x ∈ c, x ∈ a ∨ M ≤ x := fun x hx => (h' x hx).elim (h x) (fun hh => .inr (by omega))
theorem ob_of_one {b : Nat} {S : List Nat} (h : b ∉ S) : ∀ x ∈ ob (some ⟨b, 0, none⟩), x ∉ S := fun x hx => by simp [ob] at hx; subst hx; exact h
theorem not_ob_one {b c : Nat} (h : b ≠ c) : b ∉ ob (some ⟨c, 0, none⟩) := by simpa [ob] using h
theorem ob_ge {a : List Nat} {M M' : Nat} (h : ∀ x ∈ a, M' ≤ x) (hm : M ≤ M') : ∀ x ∈ a, M ≤ x := fun x hx => by have := h x hx; omega
theorem ob_lt_mono {a : List Nat} {M M' : Nat} (h : ∀ x ∈ a, x < M) (hm : M ≤ M') : ∀ x ∈ a, x < M' := fun x hx => by have := h x hx; omega
theorem grow_ne {A A' B : List Nat} {M M' : Nat} (h : ∀ x ∈ A, x ∉ B) (g : ∀ x ∈ A', x ∈ A ∨ M ≤ x) (hb : ∀ x ∈ B, x < M') (hm : M' ≤ M) : ∀ x ∈ A', x ∉ B := fun x hx hb' => (g x hx).elim (fun ha => h x ha hb') (fun hh => by have := hb x hb'; omega)
theorem ne_grow {A A' B : List Nat} {M M' : Nat} (h : ∀ x ∈ B, x ∉ A) (g : ∀ x ∈ A', x ∈ A ∨ M ≤ x) (hb : ∀ x ∈ B, x < M') (hm : M' ≤ M) : ∀ x ∈ B, x ∉ A' := fun x hx ha' => (g x ha').elim (fun ha => h x hx ha) (fun hh => by have := hb x hx; omega)
theorem not_grow {A A' : List Nat} {b M : Nat} (h : b ∉ A) (g : ∀ x ∈ A', x ∈ A ∨ M ≤ x) (hb : b < M) : b ∉ A' := fun hx => (g b hx).elim h (fun hh => by omega)
theorem ob_swap {A B : List Nat} (h : ∀ x ∈ A, x ∉ B) : ∀ x ∈ B, x ∉ A := fun x hx hA => h x hA hx
theorem ob_in1 {A S : List Nat} {b : Nat} (h : ∀ x ∈ A, x ∉ S) (hb : b ∈ A) : b ∉ S := h b hb
theorem nil_notin {S : List Nat} : ∀ x ∈ ([] : List Nat), x ∉ S := fun _ h => by cases h

/-! ### quiet operations -/
section
variable {P : Program} {n : Nat} {e : Nat → Value} {w : World} {d : Option Nat} {ty : TypeId} {pos : String} {af : Array Edge} {g : Option (Nat × Bool)}
theorem r_move {x : Operand} {v : Value} (hx : ev n e x = v) : (execOp (ev n e) ⟨d, .move x, ty, pos, af, g⟩).run P w = .ok (.value v) w := by subst hx; rfl
theorem r_assign {x : Operand} {v : Value} (hx : ev n e x = v) : (execOp (ev n e) ⟨d, .assign x, ty, pos, af, g⟩).run P w = .ok (.value v) w := by subst hx; rfl
theorem r_nil_ptr {x : Operand} {a : Addr} (hx : ev n e x = .pointer (some a)) : (execOp (ev n e) ⟨d, .nilCheck x, ty, pos, af, g⟩).run P w = .ok (.value (.pointer (some a))) w := by simp [execOp, hx]
theorem r_nil_func {x : Operand} {f : FuncId} {fi ca : Array Value} (hx : ev n e x = .func (.func f) fi ca) : (execOp (ev n e) ⟨d, .nilCheck x, ty, pos, af, g⟩).run P w = .ok (.value (.func (.func f) fi ca)) w := by simp [execOp, hx]
theorem r_pick_t {c a b : Operand} {v : Value} (hc : ev n e c = .bool true) (ha : ev n e a = v) : (execOp (ev n e) ⟨d, .pick c a b, ty, pos, af, g⟩).run P w = .ok (.value v) w := by subst ha; simp [execOp, hc, asBool]
theorem r_pick_f {c a b : Operand} {v : Value} (hc : ev n e c = .bool false) (hb : ev n e b = v) : (execOp (ev n e) ⟨d, .pick c a b, ty, pos, af, g⟩).run P w = .ok (.value v) w := by subst hb; simp [execOp, hc, asBool]
/-- 'a || b', 'a && b' at bools that are not decided -/
theorem r_pick_or {c b : Operand} {p q : Bool} {v : Value} (hc : ev n e c = .bool p) (hb : p = false → ev n e b = .bool q) (hv : v = .bool (p || q)) : (execOp (ev n e) ⟨d, .pick c (.const (.bool true)) b, ty, pos, af, g⟩).run P w = .ok (.value v) w := by
  subst hv
  cases p with
  | true => simp only [execOp, hc, asBool]; rfl
  | false => simp [execOp, hc, asBool, hb rfl]

def fieldOff (P : Program) (s : TypeId) (i : Nat) : Option Nat := match P.underlying s with
  | some (.struct fs) => match fs[i]? with
    | some f => match P.info? f.type with
      | some inf => if inf.size = 0 then none else some f.offset
      | none => none
    | none => none
  | _ => none
theorem r_field {s : TypeId} {x : Operand} {i off : Nat} {a : Addr} (hf : fieldOff P s i = some off) (hx : ev n e x = .pointer (some a)) :
    (execOp (ev n e) ⟨d, .fieldAddr s x i, ty, pos, af, g⟩).run P w = .ok (.value (.pointer (some (a.add off)))) w := by
  unfold fieldOff at hf
  split at hf
  · rename_i fs hu
    split at hf
    · rename_i f hfs
      split at hf
      · rename_i inf hinf
        split at hf
        · cases hf
        · rename_i hz
          obtain rfl := Option.some.inj hf
          simp [execOp, hx, Instr.fieldAt, run_underlying hu, hfs, Instr.sureAddr, fieldPlace, sizeOf, typeInfo, hinf, hz]
      · cases hf
    · cases hf
  · cases hf
theorem r_field_l {s : TypeId} {x : Operand} {i off b o o' : Nat} (hf : fieldOff P s i = some off) (hx : ev n e x = .pointer (some ⟨b, o, none⟩)) (ho : o + off = o') :
    (execOp (ev n e) ⟨d, .fieldAddr s x i, ty, pos, af, g⟩).run P w = .ok (.value (.pointer (some ⟨b, o', none⟩))) w := by
  subst ho; rw [r_field hf hx, Addr.add_lit]
theorem r_field_e {s : TypeId} {x : Operand} {i off N : Nat} {a : Addr} (hf : fieldOff P s i = some off) (hx : ev n e x = .pointer (some (a.add N))) :
    (execOp (ev n e) ⟨d, .fieldAddr s x i, ty, pos, af, g⟩).run P w = .ok (.value (.pointer (some (a.add (N + off))))) w := by
  rw [r_field hf hx, add_add]
theorem r_field_e0 {s : TypeId} {x : Operand} {i N : Nat} {a : Addr} (hf : fieldOff P s i = some 0) (hx : ev n e x = .pointer (some (a.add N))) :
    (execOp (ev n e) ⟨d, .fieldAddr s x i, ty, pos, af, g⟩).run P w = .ok (.value (.pointer (some (a.add N)))) w := by
  rw [r_field hf hx, add_add, Nat.add_zero]
/-- the type of one cell -/
def isOne (P : Program) (t : TypeId) : Bool := match P.underlying t with
  | some (.struct _) | some (.array _ _) => false
  | some _ => true
  | none => false
theorem run_isAgg_one {t : TypeId} (h : isOne P t = true) (w : World) : (isAgg t).run P w = .ok false w := by
  unfold isOne at h
  cases hu : P.underlying t with
  | none => simp [hu] at h
  | some u => cases u <;> simp [hu] at h <;> simp [isAgg, run_underlying hu]
def aggSize (P : Program) (t : TypeId) : Option Nat := match P.underlying t with
  | some (.struct _) | some (.array _ _) => (P.info? t).map (·.size)
  | _ => none
theorem aggSize_spec {t : TypeId} {k : Nat} (h : aggSize P t = some k) (w : World) : (isAgg t).run P w = .ok true w ∧ (sizeOf t).run P w = .ok k w := by
  unfold aggSize at h
  split at h
  · rename_i fs hu
    obtain ⟨i, hi, rfl⟩ := Option.map_eq_some_iff.1 h
    exact ⟨by simp [isAgg, run_underlying hu], by simp [sizeOf, typeInfo, hi]⟩
  · rename_i m el hu
    obtain ⟨i, hi, rfl⟩ := Option.map_eq_some_iff.1 h
    exact ⟨by simp [isAgg, run_underlying hu], by simp [sizeOf, typeInfo, hi]⟩
  · cases h
theorem r_load1 {t : TypeId} {x : Operand} {a : Addr} {v : Value} (ht : isOne P t = true) (hx : ev n e x = .pointer (some a)) (hc : w.cell? a = some v) :
    (execOp (ev n e) ⟨d, .load t x, ty, pos, af, g⟩).run P w = .ok (.value v) w := by
  simp [execOp, Instr.loadAt, hx, Instr.sureAddr, loadVar, run_isAgg_one ht, hc]
theorem r_loadS {t : TypeId} {x : Operand} {a : Addr} {k : Nat} (ht : aggSize P t = some k) (hx : ev n e x = .pointer (some a)) (cs : List Value) (hl : cs.length = k) (hc : ∀ j v, cs[j]? = some v → w.cell? (a.add j) = some v) :
    (execOp (ev n e) ⟨d, .load t x, ty, pos, af, g⟩).run P w = .ok (.value (.agg cs.toArray)) w := by
  subst hl
  simp [execOp, Instr.loadAt, hx, Instr.sureAddr, loadVar, (aggSize_spec ht w).1, (aggSize_spec ht w).2, run_loadCells_list w a cs hc]
/-- a whole struct out of its own block -/
theorem r_loadA {t : TypeId} {x : Operand} {b : Nat} {k : Nat} {l : List Value} {t' : TypeId} {f : Nat × Nat} (ht : aggSize P t = some k) (hx : ev n e x = .pointer (some ⟨b, 0, none⟩)) (h : At w b (.cells l.toArray t' f)) (hl : l.length = k) :
    (execOp (ev n e) ⟨d, .load t x, ty, pos, af, g⟩).run P w = .ok (.value (.agg l.toArray)) w :=
  r_loadS ht hx l hl (fun j v hv => by rw [Addr.add_lit, Nat.zero_add]; exact h.cell (by simpa using hv))
theorem r_loadP {t : TypeId} {x : Operand} {b o : Nat} {k : Nat} {c : Array Value} (l : List Value) {t' : TypeId} {f : Nat × Nat} (ht : aggSize P t = some k) (hx : ev n e x = .pointer (some ⟨b, o, none⟩)) (h : At w b (.cells c t' f)) (hl : l.length = k) (hc : ∀ j v, l[j]? = some v → c[o + j]? = some v) :
    (execOp (ev n e) ⟨d, .load t x, ty, pos, af, g⟩).run P w = .ok (.value (.agg l.toArray)) w :=
  r_loadS ht hx l hl (fun j v hv => by rw [Addr.add_lit]; exact h.cell (hc j v hv))
/-- an element of a slice -/
theorem r_loadE1 {t : TypeId} {x : Operand} {a : Option Addr} {cs : List Value} {N : Nat} {v : Value} (ht : isOne P t = true) (h : Sl w a cs) (hx : ev n e x = .pointer (some ((adr a).add N))) (hv : cs[N]? = some v) :
    (execOp (ev n e) ⟨d, .load t x, ty, pos, af, g⟩).run P w = .ok (.value v) w := r_load1 ht hx (h.get hv)
theorem r_loadES {t : TypeId} {x : Operand} {a : Option Addr} {cs : List Value} {N k : Nat} (vs : List Value) (ht : aggSize P t = some k) (h : Sl w a cs) (hx : ev n e x = .pointer (some ((adr a).add N))) (hl : vs.length = k) (hv : ∀ j v, vs[j]? = some v → cs[N + j]? = some v) :
    (execOp (ev n e) ⟨d, .load t x, ty, pos, af, g⟩).run P w = .ok (.value (.agg vs.toArray)) w :=
  r_loadS ht hx vs hl (fun j v hj => by rw [add_add]; exact h.get (hv j v hj))

/-! numbers -/
section
variable {k : IntKind} {a b : Int} {x y : Operand} {t t' : TypeId}
theorem r_lss (hx : ev n e x = .int k a) (hy : ev n e y = .int k b) : (execOp (ev n e) ⟨d, .binOp .lss t x y t', ty, pos, af, g⟩).run P w = .ok (.value (.bool (decide (a < b)))) w := by
  simp [execOp, hx, hy, eqGuard_lss, binOp_lss]
theorem r_leq (hx : ev n e x = .int k a) (hy : ev n e y = .int k b) : (execOp (ev n e) ⟨d, .binOp .leq t x y t', ty, pos, af, g⟩).run P w = .ok (.value (.bool (decide (a ≤ b)))) w := by
  simp [execOp, hx, hy, eqGuard_leq, binOp_leq]
theorem r_gtr (hx : ev n e x = .int k a) (hy : ev n e y = .int k b) : (execOp (ev n e) ⟨d, .binOp .gtr t x y t', ty, pos, af, g⟩).run P w = .ok (.value (.bool (decide (b < a)))) w := by
  simp [execOp, hx, hy, eqGuard_gtr, binOp_gtr]
theorem r_geq (hx : ev n e x = .int k a) (hy : ev n e y = .int k b) : (execOp (ev n e) ⟨d, .binOp .geq t x y t', ty, pos, af, g⟩).run P w = .ok (.value (.bool (decide (b ≤ a)))) w := by
  simp [execOp, hx, hy, eqGuard_geq, binOp_geq]
theorem r_eql (hx : ev n e x = .int k a) (hy : ev n e y = .int k b) : (execOp (ev n e) ⟨d, .binOp .eql t x y t', ty, pos, af, g⟩).run P w = .ok (.value (.bool (decide (a = b)))) w := by
  simp [execOp, hx, hy, eqGuard_at_int, binOp_eql]
  rfl
theorem r_neq (hx : ev n e x = .int k a) (hy : ev n e y = .int k b) : (execOp (ev n e) ⟨d, .binOp .neq t x y t', ty, pos, af, g⟩).run P w = .ok (.value (.bool (decide (a ≠ b)))) w := by
  simp [execOp, hx, hy, eqGuard_at_int, binOp_neq, bne]
  rfl
theorem r_lss_lit {p : Bool} (hx : ev n e x = .int k a) (hy : ev n e y = .int k b) (hp : decide (a < b) = p) : (execOp (ev n e) ⟨d, .binOp .lss t x y t', ty, pos, af, g⟩).run P w = .ok (.value (.bool p)) w := by rw [r_lss hx hy, hp]
theorem r_leq_lit {p : Bool} (hx : ev n e x = .int k a) (hy : ev n e y = .int k b) (hp : decide (a ≤ b) = p) : (execOp (ev n e) ⟨d, .binOp .leq t x y t', ty, pos, af, g⟩).run P w = .ok (.value (.bool p)) w := by rw [r_leq hx hy, hp]
theorem r_gtr_lit {p : Bool} (hx : ev n e x = .int k a) (hy : ev n e y = .int k b) (hp : decide (b < a) = p) : (execOp (ev n e) ⟨d, .binOp .gtr t x y t', ty, pos, af, g⟩).run P w = .ok (.value (.bool p)) w := by rw [r_gtr hx hy, hp]
theorem r_geq_lit {p : Bool} (hx : ev n e x = .int k a) (hy : ev n e y = .int k b) (hp : decide (b ≤ a) = p) : (execOp (ev n e) ⟨d, .binOp .geq t x y t', ty, pos, af, g⟩).run P w = .ok (.value (.bool p)) w := by rw [r_geq hx hy, hp]
theorem r_eql_lit {p : Bool} (hx : ev n e x = .int k a) (hy : ev n e y = .int k b) (hp : decide (a = b) = p) : (execOp (ev n e) ⟨d, .binOp .eql t x y t', ty, pos, af, g⟩).run P w = .ok (.value (.bool p)) w := by rw [r_eql hx hy, hp]
theorem r_neq_lit {p : Bool} (hx : ev n e x = .int k a) (hy : ev n e y = .int k b) (hp : decide (a ≠ b) = p) : (execOp (ev n e) ⟨d, .binOp .neq t x y t', ty, pos, af, g⟩).run P w = .ok (.value (.bool p)) w := by rw [r_neq hx hy, hp]
theorem r_add {c : Int} (hx : ev n e x = .int k a) (hy : ev n e y = .int k b) (hr : k.wrap (a + b) = c) : (execOp (ev n e) ⟨d, .binOp .add t x y t', ty, pos, af, g⟩).run P w = .ok (.value (.int k c)) w := by
  subst hr; simp [execOp, hx, hy, eqGuard_add, binOp_add, Op.intArith]
theorem r_sub {c : Int} (hx : ev n e x = .int k a) (hy : ev n e y = .int k b) (hr : k.wrap (a - b) = c) : (execOp (ev n e) ⟨d, .binOp .sub t x y t', ty, pos, af, g⟩).run P w = .ok (.value (.int k c)) w := by
  subst hr; simp [execOp, hx, hy, eqGuard_sub, binOp_sub, Op.intArith]
theorem r_mul {c : Int} (hx : ev n e x = .int k a) (hy : ev n e y = .int k b) (hr : k.wrap (a * b) = c) : (execOp (ev n e) ⟨d, .binOp .mul t x y t', ty, pos, af, g⟩).run P w = .ok (.value (.int k c)) w := by
  subst hr; simp [execOp, hx, hy, eqGuard_mul, binOp_mul, Op.intArith]
theorem r_quo {c : Int} (hx : ev n e x = .int k a) (hy : ev n e y = .int k b) (hb : b ≠ 0) (hr : k.wrap (a.tdiv b) = c) : (execOp (ev n e) ⟨d, .binOp .quo t x y t', ty, pos, af, g⟩).run P w = .ok (.value (.int k c)) w := by
  subst hr; simp [execOp, hx, hy, eqGuard_quo, binOp_quo, Op.intDiv, hb]
theorem r_rem {c : Int} (hx : ev n e x = .int k a) (hy : ev n e y = .int k b) (hb : b ≠ 0) (hr : a.tmod b = c) : (execOp (ev n e) ⟨d, .binOp .rem t x y t', ty, pos, af, g⟩).run P w = .ok (.value (.int k c)) w := by
  subst hr; simp [execOp, hx, hy, eqGuard_rem, binOp_rem, Op.intDiv, hb]
theorem r_and {c : Int} (hx : ev n e x = .int k a) (hy : ev n e y = .int k b) (hr : bits .and k a b = c) : (execOp (ev n e) ⟨d, .binOp .and t x y t', ty, pos, af, g⟩).run P w = .ok (.value (.int k c)) w := by
  subst hr; simp [execOp, hx, hy, eqGuard_and, binOp_and, intBits_and]
theorem r_or {c : Int} (hx : ev n e x = .int k a) (hy : ev n e y = .int k b) (hr : bits .or k a b = c) : (execOp (ev n e) ⟨d, .binOp .or t x y t', ty, pos, af, g⟩).run P w = .ok (.value (.int k c)) w := by
  subst hr; simp [execOp, hx, hy, eqGuard_or, binOp_or, intBits_or]
theorem r_andNot {c : Int} (hx : ev n e x = .int k a) (hy : ev n e y = .int k b) (hr : bits .andNot k a b = c) : (execOp (ev n e) ⟨d, .binOp .andNot t x y t', ty, pos, af, g⟩).run P w = .ok (.value (.int k c)) w := by
  subst hr; simp [execOp, hx, hy, eqGuard_andNot, binOp_andNot, intBits_andNot]
theorem r_shl {k' : IntKind} {c : Int} (hx : ev n e x = .int k a) (hy : ev n e y = .int k' b) (h0 : 0 ≤ b) (h1 : b ≤ k.bits) (hr : k.wrap (a * 2 ^ b.toNat) = c) : (execOp (ev n e) ⟨d, .binOp .shl t x y t', ty, pos, af, g⟩).run P w = .ok (.value (.int k c)) w := by
  subst hr; simp [execOp, hx, hy, eqGuard_shl, binOp_shl, shift_shl k k' a b h0 h1]
theorem r_shr {k' : IntKind} {c : Int} (hx : ev n e x = .int k a) (hy : ev n e y = .int k' b) (h0 : 0 ≤ b) (h1 : b ≤ k.bits) (hr : a / 2 ^ b.toNat = c) : (execOp (ev n e) ⟨d, .binOp .shr t x y t', ty, pos, af, g⟩).run P w = .ok (.value (.int k c)) w := by
  subst hr; simp [execOp, hx, hy, eqGuard_shr, binOp_shr, shift_shr k k' a b h0 h1]
end
theorem w64 {a c : Int} (h0 : -9223372036854775808 ≤ a) (h1 : a ≤ 9223372036854775807) (h : a = c) : IntKind.i64.wrap a = c := by subst h; rw [IntKind.wrap_i64]; omega
theorem wu64 {a c : Int} (h0 : 0 ≤ a) (h1 : a ≤ 18446744073709551615) (h : a = c) : IntKind.u64.wrap a = c := by subst h; simp [IntKind.wrap, IntKind.bits, IntKind.signed]; omega
theorem wu8 {a c : Int} (h0 : 0 ≤ a) (h1 : a ≤ 255) (h : a = c) : IntKind.u8.wrap a = c := by subst h; rw [IntKind.wrap_u8]; omega
theorem r_not {x : Operand} {t : TypeId} {b : Bool} (hx : ev n e x = .bool b) : (execOp (ev n e) ⟨d, .unOp .not t x, ty, pos, af, g⟩).run P w = .ok (.value (.bool (!b))) w := by simp [execOp, hx, Op.unary]
theorem toList_nil_iff {s : ByteArray} : (s.toList == ByteArray.toList ⟨#[]⟩) = decide (s.size = 0) := by
  rw [Go.ByteArray.toList_eq, Go.ByteArray.toList_eq, ← ByteArray.size_data, ← Array.length_toList]
  cases s.data.toList <;> simp
theorem r_notP {x : Operand} {t : TypeId} {p : Prop} [Decidable p] (hx : ev n e x = .bool (decide p)) : (execOp (ev n e) ⟨d, .unOp .not t x, ty, pos, af, g⟩).run P w = .ok (.value (.bool (decide (¬ p)))) w := by
  rw [r_not hx, decide_not]
theorem r_eqlS {x y : Operand} {t t' : TypeId} {s u : ByteArray} (hx : ev n e x = .string s) (hy : ev n e y = .string u) : (execOp (ev n e) ⟨d, .binOp .eql t x y t', ty, pos, af, g⟩).run P w = .ok (.value (.bool (s.toList == u.toList))) w := by
  simp [execOp, hx, hy, eqGuard_at_string, binOp, Op.stringOp]
theorem r_neqS {x y : Operand} {t t' : TypeId} {s u : ByteArray} (hx : ev n e x = .string s) (hy : ev n e y = .string u) : (execOp (ev n e) ⟨d, .binOp .neq t x y t', ty, pos, af, g⟩).run P w = .ok (.value (.bool (!(s.toList == u.toList)))) w := by
  simp [execOp, hx, hy, eqGuard_at_string, binOp, Op.stringOp]
theorem eq_bool (D : Nat) {t : TypeId} (ht : P.underlying t = some .bool) (p q : Bool) : (Op.equalIn (D + 1) t (.bool p) (.bool q)).run P w = .ok (p == q) w := by
  simp [Op.equalIn, run_underlying ht]
theorem r_eqlB {x y : Operand} {t t' : TypeId} {p q : Bool} (ht : P.underlying t = some .bool) (hx : ev n e x = .bool p) (hy : ev n e y = .bool q) : (execOp (ev n e) ⟨d, .binOp .eql t x y t', ty, pos, af, g⟩).run P w = .ok (.value (.bool (p == q))) w := by
  have h : (Op.equal t (.bool p) (.bool q)).run P w = .ok (p == q) w := eq_bool 9999 ht p q
  have h2 : (binOp .eql t (.bool p) (.bool q)).run P w = .ok (.bool (p == q)) w := by simp only [binOp]; simp [h]
  simp [execOp, hx, hy, eqGuard_at_bool, h2]
theorem r_neqB {x y : Operand} {t t' : TypeId} {p q : Bool} (ht : P.underlying t = some .bool) (hx : ev n e x = .bool p) (hy : ev n e y = .bool q) : (execOp (ev n e) ⟨d, .binOp .neq t x y t', ty, pos, af, g⟩).run P w = .ok (.value (.bool (!(p == q)))) w := by
  have h : (Op.equal t (.bool p) (.bool q)).run P w = .ok (p == q) w := eq_bool 9999 ht p q
  have h2 : (binOp .neq t (.bool p) (.bool q)).run P w = .ok (.bool (!(p == q))) w := by simp only [binOp]; simp [h]
  simp [execOp, hx, hy, eqGuard_at_bool, h2]
def isPtr (P : Program) (t : TypeId) : Bool := match P.underlying t with | some (.pointer _) => true | _ => false
theorem isPtr_spec {t : TypeId} (h : isPtr P t = true) : ∃ el, P.underlying t = some (.pointer el) := by
  unfold isPtr at h
  split at h
  · rename_i el hu; exact ⟨el, hu⟩
  · cases h
theorem eq_ptr (D : Nat) {t el : TypeId} (ht : P.underlying t = some (.pointer el)) (a : Option Addr) : (Op.equalIn (D + 1) t (.pointer a) (.pointer none)).run P w = .ok a.isNone w := by
  cases a <;> simp [Op.equalIn, run_underlying ht]
theorem r_eqlPn {x : Operand} {t t' : TypeId} {a : Option Addr} (ht : isPtr P t = true) (hx : ev n e x = .pointer a) : (execOp (ev n e) ⟨d, .binOp .eql t x (.const (.pointer none)) t', ty, pos, af, g⟩).run P w = .ok (.value (.bool a.isNone)) w := by
  obtain ⟨el, hu⟩ := isPtr_spec ht
  have h : (Op.equal t (.pointer a) (.pointer none)).run P w = .ok a.isNone w := eq_ptr 9999 hu a
  have h2 : (binOp .eql t (.pointer a) (.pointer none)).run P w = .ok (.bool a.isNone) w := by simp only [binOp]; simp [h]
  have hy : ev n e (.const (.pointer none)) = .pointer none := rfl
  simp [execOp, hx, hy, eqGuard_at_pointer, h2]
theorem r_neqPn {x : Operand} {t t' : TypeId} {a : Option Addr} (ht : isPtr P t = true) (hx : ev n e x = .pointer a) : (execOp (ev n e) ⟨d, .binOp .neq t x (.const (.pointer none)) t', ty, pos, af, g⟩).run P w = .ok (.value (.bool a.isSome)) w := by
  obtain ⟨el, hu⟩ := isPtr_spec ht
  have h : (Op.equal t (.pointer a) (.pointer none)).run P w = .ok a.isNone w := eq_ptr 9999 hu a
  have h2 : (binOp .neq t (.pointer a) (.pointer none)).run P w = .ok (.bool a.isSome) w := by
    simp only [binOp]; simp [h]
  have hy : ev n e (.const (.pointer none)) = .pointer none := rfl
  simp [execOp, hx, hy, eqGuard_at_pointer, h2]
def isSl (P : Program) (t : TypeId) : Bool := match P.underlying t with | some (.slice _) => true | _ => false
theorem isSl_spec {t : TypeId} (h : isSl P t = true) : ∃ el, P.underlying t = some (.slice el) := by
  unfold isSl at h
  split at h
  · rename_i el hu; exact ⟨el, hu⟩
  · cases h
theorem eq_sl (D : Nat) {t el : TypeId} (ht : P.underlying t = some (.slice el)) (a : Option Addr) (m c : Nat) : (Op.equalIn (D + 1) t (.slice a m c) (.slice none 0 0)).run P w = .ok a.isNone w := by
  cases a <;> simp [Op.equalIn, run_underlying ht]
theorem r_eqlSn {x : Operand} {t t' : TypeId} {a : Option Addr} {m c : Nat} (ht : isSl P t = true) (hx : ev n e x = .slice a m c) : (execOp (ev n e) ⟨d, .binOp .eql t x (.const (.slice none 0 0)) t', ty, pos, af, g⟩).run P w = .ok (.value (.bool a.isNone)) w := by
  obtain ⟨el, hu⟩ := isSl_spec ht
  have h : (Op.equal t (.slice a m c) (.slice none 0 0)).run P w = .ok a.isNone w := eq_sl 9999 hu a m c
  have h2 : (binOp .eql t (.slice a m c) (.slice none 0 0)).run P w = .ok (.bool a.isNone) w := by simp only [binOp]; simp [h]
  have hy : ev n e (.const (.slice none 0 0)) = .slice none 0 0 := rfl
  simp [execOp, hx, hy, eqGuard_at_slice, h2]
theorem r_lenSl {x : Operand} {t : TypeId} {a : Option Addr} {m c : Nat} (ht : isSl P t = true) (hx : ev n e x = .slice a m c) : (execOp (ev n e) ⟨d, .call ⟨.builtin .len, #[x], #[t]⟩, ty, pos, af, g⟩).run P w = .ok (.value (.int .i64 (m : Int))) w := by
  obtain ⟨el, hu⟩ := isSl_spec ht
  simp [execOp, resolve, invoke, builtin, Builtin.len_, run_underlying hu, hx, goInt]
theorem r_lenS {x : Operand} {t : TypeId} {s : ByteArray} (ht : P.underlying t = some .string) (hx : ev n e x = .string s) : (execOp (ev n e) ⟨d, .call ⟨.builtin .len, #[x], #[t]⟩, ty, pos, af, g⟩).run P w = .ok (.value (.int .i64 (s.size : Int))) w := by
  simp [execOp, resolve, invoke, builtin, Builtin.len_, run_underlying ht, hx, goInt]
theorem r_lenSn {x : Operand} {t : TypeId} {s : ByteArray} {m : Nat} (ht : P.underlying t = some .string) (hx : ev n e x = .string s) (hm : s.size = m) : (execOp (ev n e) ⟨d, .call ⟨.builtin .len, #[x], #[t]⟩, ty, pos, af, g⟩).run P w = .ok (.value (.int .i64 ((m : Nat) : Int))) w := by
  subst hm; exact r_lenS ht hx
def slElem (P : Program) (t : TypeId) : Option Nat := match P.underlying t with
  | some (.slice el) => (P.info? el).map (·.size)
  | _ => none
theorem r_indexAddr {t : TypeId} {x y : Operand} {a : Option Addr} {m c k : Nat} {kk : IntKind} {i : Int} {N : Nat} (ht : slElem P t = some k) (hx : ev n e x = .slice a m c) (hy : ev n e y = .int kk i) (ha : ∃ ad, a = some ad) (h0 : 0 ≤ i) (h1 : i < m) (hN : i.toNat * k = N) :
    (execOp (ev n e) ⟨d, .indexAddr t x y, ty, pos, af, g⟩).run P w = .ok (.value (.pointer (some ((adr a).add N)))) w := by
  obtain ⟨ad, rfl⟩ := ha
  subst hN
  unfold slElem at ht
  split at ht
  · rename_i el hu
    obtain ⟨i', hi, rfl⟩ := Option.map_eq_some_iff.1 ht
    simp [execOp, Instr.indexAt, hx, hy, asIntOf, run_underlying hu, h0, h1, sizeOf, typeInfo, hi, adr]
  · cases ht
theorem r_indexS {t : TypeId} {x y : Operand} {s : ByteArray} {kk : IntKind} {i : Int} {b : UInt8} (ht : P.underlying t = some .string) (hx : ev n e x = .string s) (hy : ev n e y = .int kk i) (h0 : 0 ≤ i) (hb : s[i.toNat]? = some b) :
    (execOp (ev n e) ⟨d, .index t x y, ty, pos, af, g⟩).run P w = .ok (.value (.int .u8 (b.toNat : Int))) w := by
  simp [execOp, Instr.index, hx, hy, asIntOf, run_underlying ht, h0, hb]
theorem r_makeFunc {fn : Fn} {fi ca : List Operand} {F C : List Value} (hF : fi.map (ev n e) = F) (hC : ca.map (ev n e) = C) : (execOp (ev n e) ⟨d, .makeFunc fn fi.toArray ca.toArray, ty, pos, af, g⟩).run P w = .ok (.value (.func fn F.toArray C.toArray)) w := by
  subst hF; subst hC; simp [execOp, Instr.makeFunc]
theorem r_build {t : TypeId} {pl : List (Nat × Operand)} {ps : List (Nat × Value)} {cells : Array Value} (hp : pl.map (fun p => (p.1, ev n e p.2)) = ps) (h : P.built t ps = some cells) :
    (execOp (ev n e) ⟨d, .build t pl.toArray, ty, pos, af, g⟩).run P w = .ok (.value (.agg cells)) w := by
  have hr := run_build (P := P) w t ps.toArray cells (by simpa using h)
  have hp' : List.map (fun x => match x with | (i, x) => (i, ev n e x)) pl = ps := hp
  simp [execOp, hp', hr]
theorem r_extract {x : Operand} {vs : Array Value} {i : Nat} {v : Value} (hx : ev n e x = .tuple vs) (hv : vs[i]? = some v) : (execOp (ev n e) ⟨d, .extract x i, ty, pos, af, g⟩).run P w = .ok (.value v) w := by
  simp [execOp, Instr.extract, hx, hv]
theorem r_convI {src dst : TypeId} {x : Operand} {k k' : IntKind} {a c : Int} (hs : (P.underlying src).isSome = true) (hd : P.underlying dst = some (.int k')) (hx : ev n e x = .int k a) (hr : k'.wrap a = c) :
    (execOp (ev n e) ⟨d, .convert src dst x, ty, pos, af, g⟩).run P w = .ok (.value (.int k' c)) w := by
  subst hr
  obtain ⟨u, hu⟩ := Option.isSome_iff_exists.mp hs
  simp [execOp, convert, run_underlying hu, run_underlying hd, hx, Conv.intToInt]
/-- a field of a struct that is a value: one cell of it -/
def fieldOne (P : Program) (s : TypeId) (i : Nat) : Option Nat := match P.underlying s with
  | some (.struct fs) => match fs[i]? with
    | some f => if isOne P f.type = true then some f.offset else none
    | none => none
  | _ => none
theorem r_fieldV {s : TypeId} {x : Operand} {i off : Nat} {cs : Array Value} {v : Value} (hf : fieldOne P s i = some off) (hx : ev n e x = .agg cs) (hv : cs[off]? = some v) :
    (execOp (ev n e) ⟨d, .field s x i, ty, pos, af, g⟩).run P w = .ok (.value v) w := by
  unfold fieldOne at hf
  split at hf
  · rename_i fs hu
    split at hf
    · rename_i f hfs
      split at hf
      · rename_i h1
        obtain rfl := Option.some.inj hf
        simp [execOp, Instr.field, hx, asAgg, run_underlying hu, hfs, part, run_isAgg_one h1, hv]
      · cases hf
    · cases hf
  · cases hf
theorem r_slice {t : TypeId} {x : Operand} {lo hi : Option Operand} {a : Option Addr} {m c k l h : Nat} (ht : slElem P t = some k) (hx : ev n e x = .slice a m c)
    (hlo : match lo with | some o => ∃ kk, ev n e o = .int kk (l : Int) | none => l = 0) (hhi : match hi with | some o => ∃ kk, ev n e o = .int kk (h : Int) | none => h = m)
    (h1 : l ≤ h) (h2 : h ≤ c) (hm : m ≤ c) :
    (execOp (ev n e) ⟨d, .slice t x lo hi none, ty, pos, af, g⟩).run P w = .ok (.value (.slice (if c = l then a else a.map (·.add (l * k))) (h - l) (c - l))) w := by
  unfold slElem at ht
  split at ht
  · rename_i el hu
    obtain ⟨i', hi', rfl⟩ := Option.map_eq_some_iff.1 ht
    have b1 : ∀ (kk : IntKind) (x y : Nat) code, x ≤ y → (Instr.sliceBound (.int kk (x : Int)) y code).run P w = .ok x w := by
      intro kk x y code hxy
      simp [Instr.sliceBound, asIntOf]
      omega
    cases lo <;> cases hi
    · simp only at hlo hhi; subst hlo; subst hhi
      simp [execOp, Instr.sliceAt, Instr.slice, run_underlying hu, hx, Instr.sliceBounds, sizeOf, typeInfo, hi']
    · simp only at hlo hhi; subst hlo; obtain ⟨kk, hk⟩ := hhi
      simp [execOp, Instr.sliceAt, Instr.slice, run_underlying hu, hx, Instr.sliceBounds, sizeOf, typeInfo, hi', hk, b1 kk h c _ h2]
    · simp only at hlo hhi; subst hhi; obtain ⟨kk, hk⟩ := hlo
      simp [execOp, Instr.sliceAt, Instr.slice, run_underlying hu, hx, Instr.sliceBounds, sizeOf, typeInfo, hi', hk, b1 kk l h _ h1]
    · simp only at hlo hhi; obtain ⟨kk, hk⟩ := hlo; obtain ⟨kk', hk'⟩ := hhi
      simp [execOp, Instr.sliceAt, Instr.slice, run_underlying hu, hx, Instr.sliceBounds, sizeOf, typeInfo, hi', hk, hk', b1 kk l h _ h1, b1 kk' h c _ h2]
  · cases ht
theorem r_neqSn {x : Operand} {t t' : TypeId} {a : Option Addr} {m c : Nat} (ht : isSl P t = true) (hx : ev n e x = .slice a m c) : (execOp (ev n e) ⟨d, .binOp .neq t x (.const (.slice none 0 0)) t', ty, pos, af, g⟩).run P w = .ok (.value (.bool (!a.isNone))) w := by
  obtain ⟨el, hu⟩ := isSl_spec ht
  have h : (Op.equal t (.slice a m c) (.slice none 0 0)).run P w = .ok a.isNone w := eq_sl 9999 hu a m c
  have h2 : (binOp .neq t (.slice a m c) (.slice none 0 0)).run P w = .ok (.bool (!a.isNone)) w := by simp only [binOp]; simp [h]
  have hy : ev n e (.const (.slice none 0 0)) = .slice none 0 0 := rfl
  simp [execOp, hx, hy, eqGuard_at_slice, h2]
theorem r_min {x y : Operand} {ts : Array TypeId} {k k' : IntKind} {a b c : Int} (hx : ev n e x = .int k a) (hy : ev n e y = .int k' b) (hc : (if b < a then b else a) = c) : (execOp (ev n e) ⟨d, .call ⟨.builtin .min, #[x, y], ts⟩, ty, pos, af, g⟩).run P w = .ok (.value (.int k c)) w := by
  subst hc; simp [execOp, resolve, invoke, builtin, hx, hy, Builtin.min_, Builtin.min2]
theorem r_max {x y : Operand} {ts : Array TypeId} {k k' : IntKind} {a b c : Int} (hx : ev n e x = .int k a) (hy : ev n e y = .int k' b) (hc : (if a < b then b else a) = c) : (execOp (ev n e) ⟨d, .call ⟨.builtin .max, #[x, y], ts⟩, ty, pos, af, g⟩).run P w = .ok (.value (.int k c)) w := by
  subst hc; simp [execOp, resolve, invoke, builtin, hx, hy, Builtin.max_, Builtin.max2]
theorem r_eqlS0 {x y : Operand} {t t' : TypeId} {s : ByteArray} (hx : ev n e x = .string s) (hy : ev n e y = .string ⟨#[]⟩) : (execOp (ev n e) ⟨d, .binOp .eql t x y t', ty, pos, af, g⟩).run P w = .ok (.value (.bool (decide (s.size = 0)))) w := by
  rw [r_eqlS hx hy, toList_nil_iff]
theorem r_neqS0 {x y : Operand} {t t' : TypeId} {s : ByteArray} (hx : ev n e x = .string s) (hy : ev n e y = .string ⟨#[]⟩) : (execOp (ev n e) ⟨d, .binOp .neq t x y t', ty, pos, af, g⟩).run P w = .ok (.value (.bool (decide (s.size ≠ 0)))) w := by
  rw [r_neqS hx hy, toList_nil_iff, decide_not]
theorem r_lssS {x y : Operand} {t t' : TypeId} {s u : ByteArray} (hx : ev n e x = .string s) (hy : ev n e y = .string u) : (execOp (ev n e) ⟨d, .binOp .lss t x y t', ty, pos, af, g⟩).run P w = .ok (.value (.bool (Op.bytesLess s.toList u.toList))) w := by
  simp [execOp, hx, hy, eqGuard_at_string, binOp, Op.stringOp]
theorem r_geqS {x y : Operand} {t t' : TypeId} {s u : ByteArray} (hx : ev n e x = .string s) (hy : ev n e y = .string u) : (execOp (ev n e) ⟨d, .binOp .geq t x y t', ty, pos, af, g⟩).run P w = .ok (.value (.bool (!(Op.bytesLess s.toList u.toList)))) w := by
  simp [execOp, hx, hy, eqGuard_at_string, binOp, Op.stringOp]
theorem r_addS {x y : Operand} {t t' : TypeId} {s u r : ByteArray} (hx : ev n e x = .string s) (hy : ev n e y = .string u) (hl : s.size + u.size ≤ 9223372036854775807) (hr : s ++ u = r) : (execOp (ev n e) ⟨d, .binOp .add t x y t', ty, pos, af, g⟩).run P w = .ok (.value (.string r)) w := by
  subst hr
  have h : ¬ ((s.size + u.size : Nat) : Int) > IntKind.i64.max := by simp; omega
  simp [execOp, hx, hy, eqGuard_at_string, binOp, Op.stringOp]
  omega
theorem r_convSS {src dst : TypeId} {x : Operand} {s : ByteArray} (hs : P.underlying src = some .string) (hd : P.underlying dst = some .string) (hx : ev n e x = .string s) :
    (execOp (ev n e) ⟨d, .convert src dst x, ty, pos, af, g⟩).run P w = .ok (.value (.string s)) w := by
  simp [execOp, convert, run_underlying hs, run_underlying hd, hx]
theorem r_cut {t : TypeId} {x : Operand} {lo hi : Option Operand} {a : Option Addr} {m c k l h : Nat} (ht : slElem P t = some k) (hx : ev n e x = .slice a m c)
    (hlo : match lo with | some o => ∃ kk, ev n e o = .int kk (l : Int) | none => l = 0) (hhi : match hi with | some o => ∃ kk, ev n e o = .int kk (h : Int) | none => h = m)
    (h1 : l ≤ h) (h2 : h ≤ c) (hm : m ≤ c) :
    (execOp (ev n e) ⟨d, .slice t x lo hi none, ty, pos, af, g⟩).run P w = .ok (.value (.slice (cutA a c l k) (h - l) (c - l))) w := r_slice ht hx hlo hhi h1 h2 hm
theorem r_cutN {t : TypeId} {x : Operand} {lo hi : Option Operand} {a : Option Addr} {m c k l h nn nc : Nat} (ht : slElem P t = some k) (hx : ev n e x = .slice a m c)
    (hlo : match lo with | some o => ∃ kk, ev n e o = .int kk (l : Int) | none => l = 0) (hhi : match hi with | some o => ∃ kk, ev n e o = .int kk (h : Int) | none => h = m)
    (h1 : l ≤ h) (h2 : h ≤ c) (hm : m ≤ c) (hn : h - l = nn) (hc : c - l = nc) :
    (execOp (ev n e) ⟨d, .slice t x lo hi none, ty, pos, af, g⟩).run P w = .ok (.value (.slice (cutA a c l k) nn nc)) w := by subst hn; subst hc; exact r_cut ht hx hlo hhi h1 h2 hm
theorem r_bytes {src dst el : TypeId} {x : Operand} {a : Option Addr} {m c : Nat} {bs : List UInt8} (hs : P.underlying src = some (.slice el)) (he : P.underlying el = some (.int .u8)) (hd : P.underlying dst = some .string) (hx : ev n e x = .slice a m c)
    (h : Sl w a (bs.map fun b => Value.int .u8 (b.toNat : Int))) (hl : bs.length = m) :
    (execOp (ev n e) ⟨d, .convert src dst x, ty, pos, af, g⟩).run P w = .ok (.value (.string ⟨bs.toArray⟩)) w := by
  subst hl
  have hcv := run_convert_bytes_string (P := P) w src dst el a bs.length c hs he hd
  have hrun : (Conv.bytesToString (.slice a bs.length c)).run P w = .ok (.string ⟨bs.toArray⟩) w := by
    cases a with
    | none =>
      have : bs = [] := by
        cases bs with
        | nil => rfl
        | cons b bs => obtain ⟨_, h', _⟩ := h 0 (.int .u8 (b.toNat : Int)) (by simp); cases h'
      subst this
      simp [Conv.bytesToString]
      rfl
    | some ad =>
      have hlc := run_loadCells_list (P := P) w ad (bs.map fun b => Value.int .u8 (b.toNat : Int)) (fun j v hv => h.get hv)
      rw [List.length_map] at hlc
      have e1 : (bs.map fun b => Value.int .u8 (b.toNat : Int)) = (bs.map fun b => (b.toNat : Int)).map (Value.int .u8) := by simp
      rw [e1] at hlc
      rw [run_bytesToString w ad bs.length c _ hlc]
      congr 2
      have key : ∀ (l : List UInt8) (s : ByteArray), (l.map fun b => (b.toNat : Int)).foldl (fun r n => r.push (UInt8.ofNat n.toNat)) s = ⟨s.data ++ l.toArray⟩ := by
        intro l
        induction l with
        | nil => intro s; simp
        | cons b l ih =>
          intro s
          simp only [List.map_cons, List.foldl_cons]
          rw [ih]
          simp only [ByteArray.push]
          congr 1
          apply Array.ext'
          simp
      rw [key]
      congr 1
      show (#[] : Array UInt8) ++ bs.toArray = bs.toArray
      simp
  simp [execOp, hx, hcv, hrun]
theorem r_sliceS {t : TypeId} {x : Operand} {lo hi : Option Operand} {s : ByteArray} {l h : Nat} (ht : P.underlying t = some .string) (hx : ev n e x = .string s)
    (hlo : match lo with | some o => ∃ kk, ev n e o = .int kk (l : Int) | none => l = 0) (hhi : match hi with | some o => ∃ kk, ev n e o = .int kk (h : Int) | none => h = s.size)
    (h1 : l ≤ h) (h2 : h ≤ s.size) :
    (execOp (ev n e) ⟨d, .slice t x lo hi none, ty, pos, af, g⟩).run P w = .ok (.value (.string (s.extract l h))) w := by
  have b1 : ∀ (kk : IntKind) (x y : Nat) code, x ≤ y → (Instr.sliceBound (.int kk (x : Int)) y code).run P w = .ok x w := by
    intro kk x y code hxy
    simp [Instr.sliceBound, asIntOf]
    omega
  cases lo <;> cases hi
  · simp only at hlo hhi; subst hlo; subst hhi
    simp [execOp, Instr.sliceAt, Instr.slice, run_underlying ht, hx, Instr.sliceBounds]
  · simp only at hlo hhi; subst hlo; obtain ⟨kk, hk⟩ := hhi
    simp [execOp, Instr.sliceAt, Instr.slice, run_underlying ht, hx, Instr.sliceBounds, hk, b1 kk h s.size _ h2]
  · simp only at hlo hhi; subst hhi; obtain ⟨kk, hk⟩ := hlo
    simp [execOp, Instr.sliceAt, Instr.slice, run_underlying ht, hx, Instr.sliceBounds, hk, b1 kk l s.size _ h1]
  · simp only at hlo hhi; obtain ⟨kk, hk⟩ := hlo; obtain ⟨kk', hk'⟩ := hhi
    simp [execOp, Instr.sliceAt, Instr.slice, run_underlying ht, hx, Instr.sliceBounds, hk, hk', b1 kk l h _ h1, b1 kk' h s.size _ h2]
end

/-! ### results that lie in memory -/
section
variable {P : Program} {n : Nat} {e : Nat → Value} {w : World}
def RV (P : Program) (n : Nat) (e : Nat → Value) (w : World) (r : ResultVar) (v : Value) : Prop := match r with
  | .tmp t => ev n e (.tmp t) = v
  | .cell t ty => ∃ a, ev n e (.tmp t) = .pointer (some a) ∧ (loadVar ty a).run P w = .ok v w
theorem ev_getD {t : Nat} {v : Value} (h : ev n e (.tmp t) = v) : (act n e).tmps.getD t undef = v := by
  have h1 : (act n e).eval (.tmp t) = v := by rw [act_eval]; exact h
  simpa [Act.eval] using h1
theorem rv_tmp {t : Nat} {v : Value} (h : ev n e (.tmp t) = v) : RV P n e w (.tmp t) v := h
theorem rv_agg {t : Nat} {ty : TypeId} {k b : Nat} {l : List Value} {t' : TypeId} {f : Nat × Nat} (ht : aggSize P ty = some k) (hx : ev n e (.tmp t) = .pointer (some ⟨b, 0, none⟩)) (h : At w b (.cells l.toArray t' f)) (hl : l.length = k) : RV P n e w (.cell t ty) (.agg l.toArray) := by
  refine ⟨_, hx, ?_⟩
  subst hl
  have hc : ∀ j v, l[j]? = some v → w.cell? ((⟨b, 0, none⟩ : Addr).add j) = some v := fun j v hv => by rw [Addr.add_lit, Nat.zero_add]; exact h.cell (by simpa using hv)
  simp [loadVar, (aggSize_spec ht w).1, (aggSize_spec ht w).2, run_loadCells_list w _ l hc]
theorem rv_one {t : Nat} {ty : TypeId} {a : Addr} {v : Value} (ht : isOne P ty = true) (hx : ev n e (.tmp t) = .pointer (some a)) (hc : w.cell? a = some v) : RV P n e w (.cell t ty) v :=
  ⟨_, hx, by simp [loadVar, run_isAgg_one ht, hc]⟩
theorem resv1 {fn : Func} {r : ResultVar} {v : Value} (hr : fn.results = #[r]) (h : RV P n e w r v) : (results fn (act n e).tmps).run P w = .ok v w := by
  cases r with
  | tmp t => simp only [results, hr]; simpa using ev_getD h
  | cell t ty =>
    obtain ⟨a, hx, hl⟩ := h
    have := ev_getD hx
    simp only [Array.getD_eq_getD_getElem?] at this
    simp [results, hr, this, asAddr, hl]
theorem resv2 {fn : Func} {r r' : ResultVar} {v v' : Value} (hr : fn.results = #[r, r']) (h : RV P n e w r v) (h' : RV P n e w r' v') : (results fn (act n e).tmps).run P w = .ok (.tuple #[v, v']) w := by
  cases r <;> cases r'
  · have h1 := ev_getD h; have h2 := ev_getD h'
    simp only [Array.getD_eq_getD_getElem?] at h1 h2
    simp [results, hr, h1, h2]
  · obtain ⟨a, hx, hl⟩ := h'
    have h1 := ev_getD h; have h2 := ev_getD hx
    simp only [Array.getD_eq_getD_getElem?] at h1 h2
    simp [results, hr, h1, h2, asAddr, hl]
  · obtain ⟨a, hx, hl⟩ := h
    have h1 := ev_getD hx; have h2 := ev_getD h'
    simp only [Array.getD_eq_getD_getElem?] at h1 h2
    simp [results, hr, h1, h2, asAddr, hl]
  · obtain ⟨a, hx, hl⟩ := h
    obtain ⟨a', hx', hl'⟩ := h'
    have h1 := ev_getD hx; have h2 := ev_getD hx'
    simp only [Array.getD_eq_getD_getElem?] at h1 h2
    simp [results, hr, h1, h2, asAddr, hl, hl']
end

/-! ### operations that make or write memory -/
section
variable {P : Program} {Q : Exit → Act → World → Prop} {n : Nat} {e : Nat → Value} {w : World} {d : Nat} {ty : TypeId} {pos : String} {af : Array Edge} {g : Option (Nat × Bool)} {K : (Nat → Value) → World → Prop}

theorem d_box {t : TypeId} {x : Operand} {v : Value} {cs : Array Value} (hx : ev n e x = v) (hv : v.cells = cs)
    (k : ∀ w' b, Fr [] w w' → w.heap.size ≤ b → At w' b (.cells cs t) → K (upd e d (.pointer (some ⟨b, 0, none⟩))) w') :
    Does P Q n ⟨some d, .box t x, ty, pos, af, g⟩ e w K := by
  subst hv; subst hx
  exact d_run (v := .pointer (some ⟨w.heap.size, 0, none⟩)) (w' := w.alloc (.cells (ev n e x).cells t)) (by simp [execOp, Instr.box, newVar, newRow]) (k _ _ (Fr.alloc _ _) (Nat.le_refl _) (At.new _ _))
/-- the zero of a type -/
def zeroOf (P : Program) (t : TypeId) : Option Value := (P.info? t).bind (·.zero)
theorem zeroOf_spec {t : TypeId} {z : Value} (h : zeroOf P t = some z) (w : World) : (zeroValue t).run P w = .ok z w := by
  unfold zeroOf at h
  obtain ⟨i, hi, hz⟩ := Option.bind_eq_some_iff.1 h
  simp [zeroValue, typeInfo, hi, hz]
theorem d_alloc {t : TypeId} {z : Value} {cs : Array Value} (hz : zeroOf P t = some z) (hv : z.cells = cs)
    (k : ∀ w' b, Fr [] w w' → w.heap.size ≤ b → At w' b (.cells cs t) → K (upd e d (.pointer (some ⟨b, 0, none⟩))) w') :
    Does P Q n ⟨some d, .alloc t, ty, pos, af, g⟩ e w K := by
  subst hv
  exact d_run (v := .pointer (some ⟨w.heap.size, 0, none⟩)) (w' := w.alloc (.cells z.cells t)) (by simp [execOp, Instr.alloc, zeroOf_spec hz, newVar, newRow]) (k _ _ (Fr.alloc _ _) (Nat.le_refl _) (At.new _ _))
/-- a store of one cell into a block of its own -/
theorem d_store1 {t : TypeId} {x y : Operand} {b off : Nat} {c : Array Value} {t' : TypeId} {v : Value} {c' : Array Value} (ht : (P.info? t).map (·.size) = some 1) (hx : ev n e x = .pointer (some ⟨b, off, none⟩)) (hy : ev n e y = v) (hv : v.oneCell' = true)
    (h : At w b (.cells c t' (0, 0))) (ho : off < c.size) (hc : c.setIfInBounds off v = c')
    (k : ∀ w', Fr [b] w w' → At w' b (.cells c' t' (0, 0)) → K e w') :
    Does P Q n ⟨none, .store t x y, ty, pos, af, g⟩ e w K := by
  subst hc; subst hy
  have h0 : w.heap[b]? = some (.cells c t' (0, 0)) := h
  obtain ⟨i, hi, hs⟩ := Option.map_eq_some_iff.1 ht
  have hcell : w.cell? ⟨b, off, none⟩ = some c[off] := h.cell (by simp [ho])
  have hfro : w.frozen? ⟨b, off, none⟩ = false := by simp [World.frozen?, h0]
  have hcs : (ev n e y).cells = #[ev n e y] := by cases hh : ev n e y <;> simp_all [Value.cells, Value.oneCell']
  refine d_skip0 (w' := w.setRow b (c.setIfInBounds off (ev n e y))) ?_ (k _ (Fr.row _ _ _) (setRow_heap w b c _ t' _ h0))
  simp only [execOp, Instr.storeAt, hx, Instr.sureAddr, storeVar, Sem.run_bind, Sem.run_pure, Result.andThen_ok, hcs, sizeOf, typeInfo, run_program, hi, hs]
  simp [storeCells, hi, hs, run_store P w _ _ _ hv, Addr.add_zero', hcell, hfro, setCell_eq_setRow w b off c t' (0, 0) _ h0]
/-- a store of a struct over a whole block -/
theorem d_storeA {t : TypeId} {x y : Operand} {b : Nat} {c : Array Value} {t' : TypeId} {l : List Value} (ht : (P.info? t).map (·.size) = some l.length) (hx : ev n e x = .pointer (some ⟨b, 0, none⟩)) (hy : ev n e y = .agg l.toArray) (hv : ∀ v ∈ l, v.oneCell' = true)
    (h : At w b (.cells c t' (0, 0))) (ho : c.size = l.length)
    (k : ∀ w', Fr [b] w w' → At w' b (.cells l.toArray t' (0, 0)) → K e w') :
    Does P Q n ⟨none, .store t x y, ty, pos, af, g⟩ e w K := by
  obtain ⟨i, hi, hs⟩ := Option.map_eq_some_iff.1 ht
  have h0 : w.heap[b]? = some (.cells c t' (0, 0)) := h
  have hst := run_storeCells_at P b 0 t' l 0 c w h (by omega) hv
  have he : c.toList.take (0 + 0) ++ l ++ c.toList.drop (0 + 0 + l.length) = l := by
    rw [List.drop_of_length_le (by simp; omega)]; simp
  rw [he] at hst
  refine d_skip0 (w' := w.setRow b l.toArray) ?_ (k _ (Fr.row _ _ _) (setRow_heap w b c _ t' _ h0))
  simp [execOp, Instr.storeAt, hx, hy, Instr.sureAddr, storeVar, Value.cells, sizeOf, typeInfo, hi, hs, hst]
/-- the cells of a row behind a store of vs at N -/
def spl (cs : List Value) (N : Nat) (vs : List Value) : List Value := cs.take N ++ vs ++ cs.drop (N + vs.length)
theorem take_spl (l vs : List Value) (N m : Nat) (h : N + vs.length ≤ m) : (spl l N vs).take m = spl (l.take m) N vs ∨ l.length < N + vs.length := by
  by_cases hl : N + vs.length ≤ l.length
  · left
    unfold spl
    apply List.ext_getElem?
    intro j
    simp only [List.getElem?_take, List.getElem?_append, List.length_append, List.length_take, List.getElem?_drop]
    have h1 : min N l.length = N := by omega
    have h2 : min N (min m l.length) = N := by omega
    rw [h1, h2]
    by_cases a : j < m
    · by_cases b : j < N
      · have c1 : j < N + vs.length := by omega
        simp [a, b, c1]
      · by_cases c : j < N + vs.length
        · simp [a, b, c]
        · have : N + vs.length + (j - (N + vs.length)) < m := by omega
          simp [a, b, c, this]
    · have b : ¬ j < N := by omega
      have c : ¬ j < N + vs.length := by omega
      have c2 : ¬ N + vs.length + (j - (N + vs.length)) < m := by omega
      simp [a, b, c, c2]
  · right; omega
/-- a store into an element of a row of the program's own -/
theorem own_store {t' : TypeId} {k : Nat} {a : Option Addr} {m c : Nat} {cs : List Value} (h : Own w t' k a m c cs) {N : Nat} {vs : List Value} (hN : N + vs.length ≤ m * k) (hv : ∀ v ∈ vs, v.oneCell' = true) (hne : 0 < vs.length) :
    ∃ w', (storeCells ((adr a).add N) vs).run P w = .ok () w' ∧ Fr (ob a) w w' ∧ Own w' t' k a m c (spl cs N vs) := by
  rcases h.cases with ⟨rfl, rfl, rfl, rfl⟩ | ⟨gg, cur, rfl, hg, h1, h2, h3, h4⟩
  · rw [Nat.zero_mul] at hN; omega
  · have hmc : m * k ≤ c * k := Nat.mul_le_mul_right _ h1
    have hst := run_storeCells_at P gg N t' vs 0 cur w hg (by omega) hv
    simp only [Nat.add_zero] at hst
    have ha : (adr (some ⟨gg, 0, none⟩)).add N = ⟨gg, N, none⟩ := by simp [adr, Addr.add_lit]
    rw [ha]
    refine ⟨_, hst, Fr.row _ _ _, Own.mk ?_ (setRow_heap w gg cur _ t' _ hg) h1 h2 ?_ ?_⟩
    · have := h.len
      simp [spl]; omega
    · simp; omega
    · rw [List.toList_toArray]
      have := (take_spl cur.toList vs N (m * k) hN).resolve_right (by simp; omega)
      unfold spl at this ⊢
      rw [this, h4]
theorem d_storeE {t : TypeId} {x y : Operand} {a : Option Addr} {m c k' N : Nat} {t' : TypeId} {cs : List Value} {v : Value} (ht : (P.info? t).map (·.size) = some 1) (hx : ev n e x = .pointer (some ((adr a).add N))) (hy : ev n e y = v) (hv : v.oneCell' = true)
    (h : Own w t' k' a m c cs) (hN : N < m * k')
    (k : ∀ w', Fr (ob a) w w' → Own w' t' k' a m c (spl cs N [v]) → K e w') :
    Does P Q n ⟨none, .store t x y, ty, pos, af, g⟩ e w K := by
  subst hy
  obtain ⟨i, hi, hs⟩ := Option.map_eq_some_iff.1 ht
  obtain ⟨w', hr, hf, ho⟩ := own_store (P := P) h (N := N) (vs := [ev n e y]) (by simp; omega) (by simpa using hv) (by simp)
  have hcs : (ev n e y).cells = #[ev n e y] := by cases hh : ev n e y <;> simp_all [Value.cells, Value.oneCell']
  refine d_skip0 (w' := w') ?_ (k _ hf ho)
  simp only [execOp, Instr.storeAt, hx, Instr.sureAddr, storeVar, Sem.run_bind, Sem.run_pure, Result.andThen_ok, hcs, sizeOf, typeInfo, run_program, hi, hs]
  simp [hi, hs, hr]
theorem d_storeES {t : TypeId} {x y : Operand} {a : Option Addr} {m c k' N : Nat} {t' : TypeId} {cs l : List Value} (ht : (P.info? t).map (·.size) = some l.length) (hx : ev n e x = .pointer (some ((adr a).add N))) (hy : ev n e y = .agg l.toArray) (hv : ∀ v ∈ l, v.oneCell' = true) (hne : 0 < l.length)
    (h : Own w t' k' a m c cs) (hN : N + l.length ≤ m * k')
    (k : ∀ w', Fr (ob a) w w' → Own w' t' k' a m c (spl cs N l) → K e w') :
    Does P Q n ⟨none, .store t x y, ty, pos, af, g⟩ e w K := by
  obtain ⟨i, hi, hs⟩ := Option.map_eq_some_iff.1 ht
  obtain ⟨w', hr, hf, ho⟩ := own_store (P := P) h (N := N) (vs := l) hN hv hne
  refine d_skip0 (w' := w') ?_ (k _ hf ho)
  simp [execOp, Instr.storeAt, hx, hy, Instr.sureAddr, storeVar, Value.cells, sizeOf, typeInfo, hi, hs, hr]

/-- zero, cells, bytes of an element type -/
def Inf (P : Program) (t : TypeId) (z : Value) (k b : Nat) : Prop := (P.info? t).map (fun i => (i.zero, i.size, i.bytes)) = some (some z, k, b)
theorem Inf.parts {t : TypeId} {z : Value} {k b : Nat} (h : Inf P t z k b) : ∃ i, P.info? t = some i ∧ i.zero = some z ∧ i.size = k ∧ i.bytes = b := info_parts h
theorem ret_slice {w w' : World} {base : Nat} {t : TypeId} {k : Nat} {v : Value} {m : Nat} {cs : List Value} (h : w'.ownsRow base t k v m cs) : ∃ a c, v = .slice a m c ∧ Own w' t k a m c cs ∧ ∀ x ∈ ob a, base ≤ x := by
  obtain ⟨hl, ⟨rfl, rfl⟩ | ⟨gg, cap, cur, rfl, hb, hg, h1, h2, h3, h4⟩⟩ := h
  · exact ⟨none, 0, rfl, ⟨hl, .inl ⟨rfl, rfl⟩⟩, by simp [ob]⟩
  · exact ⟨_, cap, rfl, Own.mk hl hg h1 h2 h3 h4, by simp [ob, hb]⟩
/-- append of the elements of another slice -/
theorem d_append {s x : Operand} {t el : TypeId} {z : Value} {k' by' : Nat} {a : Option Addr} {m c : Nat} {cs : List Value} {a2 : Option Addr} {m2 c2 : Nat} {news : List Value}
    (ht : P.underlying t = some (.slice el)) (hI : Inf P el z k' by') (hz : z.cells.size = k') (hk : 0 < k')
    (hs : ev n e s = .slice a m c) (ho : Own w el k' a m c cs) (hx : ev n e x = .slice a2 m2 c2) (hS : Sl w a2 news) (hl : news.length = m2 * k') (h1 : ∀ u ∈ news, u.oneCell' = true)
    (hsz : (m + m2) * by' ≤ 140737488355328) (h63 : m + m2 ≤ maxLen)
    (k : ∀ w' a' c', Fr (ob a) w w' → Own w' el k' a' (m + m2) c' (cs ++ news) → (∀ x ∈ ob a', x ∈ ob a ∨ w.heap.size ≤ x) → (a' = none → m + m2 = 0) → K (upd e d (.slice a' (m + m2) c')) w') :
    Does P Q n ⟨some d, .call ⟨.builtin .append, #[s, x], #[t, t]⟩, ty, pos, af, g⟩ e w K := by
  obtain ⟨i, hi, h2, h3, h4⟩ := hI.parts
  by_cases hm2 : m2 = 0
  · subst hm2
    have hn : news = [] := List.eq_nil_of_length_eq_zero (by simpa using hl)
    subst hn
    have hrun : (Builtin.append_ #[t, t] ty #[.slice a m c, .slice a2 0 c2]).run P w = .ok (.slice a m c) w := by
      have hmc := ho.cap
      rcases ho.cases with ⟨rfl, rfl, rfl, rfl⟩ | ⟨gg, cur, rfl, hg, _⟩
      · cases a2 <;> simp [Builtin.append_, run_underlying ht, sizeOf, typeInfo, hi, Builtin.lenOf, Builtin.firstCells, loadCells, loadCellsFrom]
      · cases a2 <;> simp [Builtin.append_, run_underlying ht, sizeOf, typeInfo, hi, Builtin.lenOf, Builtin.firstCells, loadCells, loadCellsFrom, hmc, storeCells]
    refine d_run (v := .slice a m c) (w' := w) (by simp [execOp, resolve, invoke, builtin, hs, hx, hrun]) ?_
    have := k w a c (Fr.refl _ _) (by simpa using ho) (fun x hx => .inl hx) (by
      intro ha; subst ha
      rcases ho.cases with ⟨_, rfl, _⟩ | ⟨_, _, h, _⟩
      · rfl
      · cases h)
    simpa using this
  · obtain ⟨ad, rfl⟩ : ∃ ad, a2 = some ad := hS.some (by rw [hl]; exact Nat.mul_pos (Nat.pos_of_ne_zero hm2) hk)
    have hnews : ∀ j u, news[j]? = some u → w.cell? (ad.add j) = some u := fun j u hu => hS.get hu
    obtain ⟨v', w', hr, ho', hg, hnil⟩ := run_append_own (P := P) w 0 t ty el i z k' by' ht hi h2 h3 h4 hz hk (.slice a m c) m cs ho ad m2 c2 news hl hnews h1 h63 hsz (Nat.zero_le _)
    obtain ⟨a', c', rfl, ho'', -⟩ := ret_slice (w := w) ho'
    refine d_run (v := .slice a' (m + m2) c') (w' := w') (by simp [execOp, resolve, invoke, builtin, hs, hx, hr]) (k w' a' c' (Fr.grown hg) ho'' ?_ ?_)
    · intro x hx
      by_cases hlt : x < w.heap.size
      · left
        rcases ho.cases with ⟨rfl, rfl, rfl, rfl⟩ | ⟨gg, cur, rfl, hgg, h5, h6, h7, h8⟩
        · exfalso
          -- a nil slice that grows takes a new block
          obtain ⟨cur', f', hat⟩ := ho''.tag x hx
          rcases ho''.cases with ⟨rfl, _⟩ | ⟨g2, cur2, rfl, _⟩
          · simp [ob] at hx
          · simp [ob] at hx; subst hx
            have hr2 := run_append_nil (P := P) w t ty el i z ht hi h2 ad m2 c2 news (by rw [h3]; exact hl) hnews (by omega) (by simp [maxLen] at h63; omega) (by rw [h4]; simp at hsz; omega)
            rw [hr2] at hr
            simp only [Result.ok.injEq, Value.slice.injEq, Option.some.injEq, Addr.mk.injEq] at hr
            omega
        · by_cases hroom : m + m2 ≤ c
          · have hfit : m * i.size + news.length ≤ cur.size := by rw [hl, h7, h3, ← Nat.add_mul]; exact Nat.mul_le_mul_right _ hroom
            have hr2 := run_append_room (P := P) w t ty el i ht hi gg m c cur hgg ad m2 c2 news (by rw [h3]; exact hl) hnews h1 hroom hfit
            rw [hr2] at hr
            simp only [Result.ok.injEq, Value.slice.injEq] at hr
            obtain ⟨⟨rfl, _⟩, _⟩ := hr
            exact hx
          · exfalso
            have holds : ∀ j u, cs[j]? = some u → w.cell? ((⟨gg, 0, none⟩ : Addr).add j) = some u := fun j u hu => ho.sl.get hu
            have hr2 := run_append_grow (P := P) w t ty el i z ht hi h2 ⟨gg, 0, none⟩ m c cs (by rw [h3]; exact ho.len) holds ad m2 c2 news (by rw [h3]; exact hl) hnews (by omega) (by simp [maxLen] at h63; omega) (by rw [h4]; exact growslice_fits (by omega) hsz)
            rw [hr2] at hr
            simp only [Result.ok.injEq, Value.slice.injEq] at hr
            obtain ⟨⟨rfl, _⟩, _⟩ := hr
            simp [ob] at hx
            omega
      · right; omega
    · intro ha
      subst ha
      rcases ho''.cases with ⟨_, h, _⟩ | ⟨_, _, h, _⟩
      · omega
      · cases h
theorem own_base {w : World} {t : TypeId} {k : Nat} {a : Option Addr} {n c M : Nat} {cs : List Value} (h : Own w t k a n c cs) (hM : ∀ x ∈ ob a, M ≤ x) : w.ownsRow M t k (.slice a n c) n cs := by
  obtain ⟨hl, h' | ⟨gg, cap, cur, hv, _, hg, h1, h2, h3, h4⟩⟩ := h
  · exact ⟨hl, .inl h'⟩
  · refine ⟨hl, .inr ⟨gg, cap, cur, hv, ?_, hg, h1, h2, h3, h4⟩⟩
    simp only [Value.slice.injEq] at hv
    obtain ⟨rfl, _⟩ := hv
    exact hM _ (by simp [ob])
/-- append where there is room -/
theorem d_appendFit {s x : Operand} {t el : TypeId} {z : Value} {k' by' : Nat} {b : Nat} {m c : Nat} {cs : List Value} {a2 : Option Addr} {m2 c2 : Nat} {news : List Value}
    (ht : P.underlying t = some (.slice el)) (hI : Inf P el z k' by') (hk : 0 < k')
    (hs : ev n e s = .slice (some ⟨b, 0, none⟩) m c) (ho : Own w el k' (some ⟨b, 0, none⟩) m c cs) (hx : ev n e x = .slice a2 m2 c2) (hS : Sl w a2 news) (hl : news.length = m2 * k') (h1 : ∀ u ∈ news, u.oneCell' = true)
    (hfit : m + m2 ≤ c)
    (k : ∀ w', Fr [b] w w' → Own w' el k' (some ⟨b, 0, none⟩) (m + m2) c (cs ++ news) → K (upd e d (.slice (some ⟨b, 0, none⟩) (m + m2) c)) w') :
    Does P Q n ⟨some d, .call ⟨.builtin .append, #[s, x], #[t, t]⟩, ty, pos, af, g⟩ e w K := by
  obtain ⟨i, hi, h2, h3, h4⟩ := hI.parts
  by_cases hm2 : m2 = 0
  · subst hm2
    have hn : news = [] := List.eq_nil_of_length_eq_zero (by simpa using hl)
    subst hn
    have hmc := ho.cap
    have hrun : (Builtin.append_ #[t, t] ty #[.slice (some ⟨b, 0, none⟩) m c, .slice a2 0 c2]).run P w = .ok (.slice (some ⟨b, 0, none⟩) m c) w := by
      cases a2 <;> simp [Builtin.append_, run_underlying ht, sizeOf, typeInfo, hi, Builtin.lenOf, Builtin.firstCells, loadCells, loadCellsFrom, hmc, storeCells]
    refine d_run (v := .slice (some ⟨b, 0, none⟩) m c) (w' := w) (by simp [execOp, resolve, invoke, builtin, hs, hx, hrun]) ?_
    have := k w (Fr.refl _ _) (by simpa using ho)
    simpa using this
  · obtain ⟨ad, rfl⟩ : ∃ ad, a2 = some ad := hS.some (by rw [hl]; exact Nat.mul_pos (Nat.pos_of_ne_zero hm2) hk)
    obtain ⟨w', hr, ho', hg⟩ := run_append_fits (P := P) w 0 t ty el i k' ht hi h3 b m c cs ho ad m2 c2 news hl (fun j u hu => hS.get hu) h1 hfit
    exact d_run (v := .slice (some ⟨b, 0, none⟩) (m + m2) c) (w' := w') (by simp [execOp, resolve, invoke, builtin, hs, hx, hr]) (k w' (Fr.grown (a := some ⟨b, 0, none⟩) (n := m) (c := c) (by simpa [Value.ownBlock] using hg)) ho')
/-- append of a string's bytes where there is room -/
theorem d_appendSFit {s x : Operand} {t u el : TypeId} {b : Nat} {m c : Nat} {cs : List Value} {str : ByteArray}
    (ht : P.underlying t = some (.slice el)) (hu : P.underlying u = some .string) (hI : Inf P el (.int .u8 0) 1 1)
    (hs : ev n e s = .slice (some ⟨b, 0, none⟩) m c) (ho : Own w el 1 (some ⟨b, 0, none⟩) m c cs) (hx : ev n e x = .string str) (hfit : m + str.size ≤ c)
    (k : ∀ w', Fr [b] w w' → Own w' el 1 (some ⟨b, 0, none⟩) (m + str.size) c (cs ++ Lib.strCells str) → K (upd e d (.slice (some ⟨b, 0, none⟩) (m + str.size) c)) w') :
    Does P Q n ⟨some d, .call ⟨.builtin .append, #[s, x], #[t, u]⟩, ty, pos, af, g⟩ e w K := by
  obtain ⟨i, hi, h2, h3, h4⟩ := hI.parts
  rcases ho.cases with ⟨h, _⟩ | ⟨gg, cur, hb, hg, h5, h6, h7, h8⟩
  · cases h
  · simp only [Option.some.injEq, Addr.mk.injEq, and_true] at hb
    obtain rfl := hb
    have hg0 : w.heap[b]? = some (.cells cur el (0, 0)) := hg
    have hr := Lib.run_append_room_string (P := P) w t u ty el i ht hu hi h3 b m c cur hg0 str hfit (by omega)
    refine d_run (v := .slice (some ⟨b, 0, none⟩) (m + str.size) c) (w' := w.setRow b (cur.toList.take m ++ Lib.strCells str ++ cur.toList.drop (m + str.size)).toArray) (by simp only [execOp, resolve, invoke, builtin, Sem.run_bind, Sem.run_pure, Result.andThen_ok, List.map_toArray, List.map_cons, List.map_nil, hs, hx, hr]) (k _ (Fr.row _ _ _) ?_)
    have hl := ho.len
    refine Own.mk ?_ (setRow_heap w b cur _ el _ hg0) hfit h6 ?_ ?_
    · simp [hl, Lib.strCells_length]
    · simp [Lib.strCells_length]; omega
    · have e1 : cur.toList.take m = cs := by simpa using h8
      rw [List.toList_toArray, e1, List.append_assoc, ← List.append_assoc]
      rw [List.take_append_of_le_length (by simp [Lib.strCells_length]; rw [hl]; omega)]
      rw [List.take_of_length_le (by simp [Lib.strCells_length]; rw [hl]; omega)]
/-- append of a string's bytes -/
theorem d_appendS {s x : Operand} {t u el : TypeId} {a : Option Addr} {m c M : Nat} {cs : List Value} {str : ByteArray}
    (ht : P.underlying t = some (.slice el)) (hu : P.underlying u = some .string) (hI : Inf P el (.int .u8 0) 1 1)
    (hs : ev n e s = .slice a m c) (ho : Own w el 1 a m c cs) (hx : ev n e x = .string str)
    (hsz : m + str.size ≤ 140737488355328) (hM : ∀ x ∈ ob a, M ≤ x) (hMw : M ≤ w.heap.size)
    (k : ∀ w' a' c', Fr (ob a) w w' → Own w' el 1 a' (m + str.size) c' (cs ++ Lib.strCells str) → (∀ x ∈ ob a', M ≤ x) → (a' = none → m + str.size = 0) → K (upd e d (.slice a' (m + str.size) c')) w') :
    Does P Q n ⟨some d, .call ⟨.builtin .append, #[s, x], #[t, u]⟩, ty, pos, af, g⟩ e w K := by
  obtain ⟨i, hi, h2, h3, h4⟩ := hI.parts
  obtain ⟨v', w', hr, ho', hg, hnil⟩ := Lib.run_append_own_string (P := P) w M t u ty el i ht hu hi h2 h3 h4 (.slice a m c) m cs (own_base ho hM) str (by simp [maxLen]; omega) hsz hMw
  obtain ⟨a', c', rfl, ho'', hge⟩ := ret_slice (w := w) ho'
  refine d_run (v := .slice a' (m + str.size) c') (w' := w') (by simp [execOp, resolve, invoke, builtin, hs, hx, hr]) (k w' a' c' (Fr.grown hg) ho'' hge ?_)
  intro ha
  subst ha
  rcases ho''.cases with ⟨_, h, _⟩ | ⟨_, _, h, _⟩
  · omega
  · cases h
theorem d_appendN {nn : Nat} {cs' : List Value} {s x : Operand} {t el : TypeId} {z : Value} {k' by' : Nat} {a : Option Addr} {m c : Nat} {cs : List Value} {a2 : Option Addr} {m2 c2 : Nat} {news : List Value}
    (ht : P.underlying t = some (.slice el)) (hI : Inf P el z k' by') (hz : z.cells.size = k') (hk : 0 < k')
    (hs : ev n e s = .slice a m c) (ho : Own w el k' a m c cs) (hx : ev n e x = .slice a2 m2 c2) (hS : Sl w a2 news) (hl : news.length = m2 * k') (h1 : ∀ u ∈ news, u.oneCell' = true)
    (hsz : (m + m2) * by' ≤ 140737488355328) (h63 : m + m2 ≤ maxLen)
    (hn : m + m2 = nn) (hcs : cs ++ news = cs')
    (k : ∀ w' a' c', Fr (ob a) w w' → Own w' el k' a' nn c' cs' → (∀ x ∈ ob a', x ∈ ob a ∨ w.heap.size ≤ x) → (a' = none → nn = 0) → K (upd e d (.slice a' nn c')) w') :
    Does P Q n ⟨some d, .call ⟨.builtin .append, #[s, x], #[t, t]⟩, ty, pos, af, g⟩ e w K := by
  subst hn; subst hcs; exact d_append ht hI hz hk hs ho hx hS hl h1 hsz h63 k
theorem d_appendFitN {nn : Nat} {cs' : List Value} {s x : Operand} {t el : TypeId} {z : Value} {k' by' : Nat} {b : Nat} {m c : Nat} {cs : List Value} {a2 : Option Addr} {m2 c2 : Nat} {news : List Value}
    (ht : P.underlying t = some (.slice el)) (hI : Inf P el z k' by') (hk : 0 < k')
    (hs : ev n e s = .slice (some ⟨b, 0, none⟩) m c) (ho : Own w el k' (some ⟨b, 0, none⟩) m c cs) (hx : ev n e x = .slice a2 m2 c2) (hS : Sl w a2 news) (hl : news.length = m2 * k') (h1 : ∀ u ∈ news, u.oneCell' = true)
    (hfit : m + m2 ≤ c)
    (hn : m + m2 = nn) (hcs : cs ++ news = cs')
    (k : ∀ w', Fr [b] w w' → Own w' el k' (some ⟨b, 0, none⟩) nn c cs' → K (upd e d (.slice (some ⟨b, 0, none⟩) nn c)) w') :
    Does P Q n ⟨some d, .call ⟨.builtin .append, #[s, x], #[t, t]⟩, ty, pos, af, g⟩ e w K := by
  subst hn; subst hcs; exact d_appendFit ht hI hk hs ho hx hS hl h1 hfit k
theorem d_appendSFitN {nn : Nat} {cs' : List Value} {s x : Operand} {t u el : TypeId} {b : Nat} {m c : Nat} {cs : List Value} {str : ByteArray}
    (ht : P.underlying t = some (.slice el)) (hu : P.underlying u = some .string) (hI : Inf P el (.int .u8 0) 1 1)
    (hs : ev n e s = .slice (some ⟨b, 0, none⟩) m c) (ho : Own w el 1 (some ⟨b, 0, none⟩) m c cs) (hx : ev n e x = .string str) (hfit : m + str.size ≤ c)
    (hn : m + str.size = nn) (hcs : cs ++ Lib.strCells str = cs')
    (k : ∀ w', Fr [b] w w' → Own w' el 1 (some ⟨b, 0, none⟩) nn c cs' → K (upd e d (.slice (some ⟨b, 0, none⟩) nn c)) w') :
    Does P Q n ⟨some d, .call ⟨.builtin .append, #[s, x], #[t, u]⟩, ty, pos, af, g⟩ e w K := by
  subst hn; subst hcs; exact d_appendSFit ht hu hI hs ho hx hfit k
theorem d_appendSN {nn : Nat} {cs' : List Value} {s x : Operand} {t u el : TypeId} {a : Option Addr} {m c M : Nat} {cs : List Value} {str : ByteArray}
    (ht : P.underlying t = some (.slice el)) (hu : P.underlying u = some .string) (hI : Inf P el (.int .u8 0) 1 1)
    (hs : ev n e s = .slice a m c) (ho : Own w el 1 a m c cs) (hx : ev n e x = .string str)
    (hsz : m + str.size ≤ 140737488355328) (hM : ∀ x ∈ ob a, M ≤ x) (hMw : M ≤ w.heap.size)
    (hn : m + str.size = nn) (hcs : cs ++ Lib.strCells str = cs')
    (k : ∀ w' a' c', Fr (ob a) w w' → Own w' el 1 a' nn c' cs' → (∀ x ∈ ob a', M ≤ x) → (a' = none → nn = 0) → K (upd e d (.slice a' nn c')) w') :
    Does P Q n ⟨some d, .call ⟨.builtin .append, #[s, x], #[t, u]⟩, ty, pos, af, g⟩ e w K := by
  subst hn; subst hcs; exact d_appendS ht hu hI hs ho hx hsz hM hMw k
/-- copy of one slice's elements over the begin of a row of the program's own -/
theorem d_copy {s x : Operand} {t el : TypeId} {z : Value} {k' by' : Nat} {a : Option Addr} {m c : Nat} {cs : List Value} {a2 : Option Addr} {m2 c2 : Nat} {news : List Value}
    (ht : P.underlying t = some (.slice el)) (hI : Inf P el z k' by')
    (hs : ev n e s = .slice a m c) (ho : Own w el k' a m c cs) (hx : ev n e x = .slice a2 m2 c2) (hS : Sl w a2 news) (hl : news.length = m2 * k') (h1 : ∀ u ∈ news, u.oneCell' = true) (hm : m2 ≤ m) (hk : 0 < k')
    (k : ∀ w', Fr (ob a) w w' → Own w' el k' a m c (spl cs 0 news) → K (upd e d (.int .i64 (m2 : Int))) w') :
    Does P Q n ⟨some d, .call ⟨.builtin .copy, #[s, x], #[t, t]⟩, ty, pos, af, g⟩ e w K := by
  obtain ⟨i, hi, h2, h3, h4⟩ := hI.parts
  have hmin : Nat.min m2 m = m2 := Nat.min_eq_left hm
  by_cases hz : m2 = 0
  · subst hz
    have hn : news = [] := List.eq_nil_of_length_eq_zero (by simpa using hl)
    subst hn
    have hrun : (Builtin.copy_ #[t, t] ty #[.slice a m c, .slice a2 0 c2]).run P w = .ok (goInt 0) w := by
      cases a <;> cases a2 <;> simp [Builtin.copy_, run_underlying ht, sizeOf, typeInfo, hi, Builtin.lenOf, Builtin.firstCells, loadCells, loadCellsFrom, storeCells]
    refine d_run (v := .int .i64 0) (w' := w) (by simp [execOp, resolve, invoke, builtin, hs, hx, hrun, goInt]) ?_
    have := k w (Fr.refl _ _) (by simpa [spl] using ho)
    simpa using this
  · obtain ⟨ad, rfl⟩ : ∃ ad, a2 = some ad := hS.some (by rw [hl]; exact Nat.mul_pos (Nat.pos_of_ne_zero hz) hk)
    obtain ⟨w', hr, hf, ho'⟩ := own_store (P := P) ho (N := 0) (vs := news) (by rw [hl, Nat.zero_add]; exact Nat.mul_le_mul_right _ hm) h1 (by rw [hl]; exact Nat.mul_pos (Nat.pos_of_ne_zero hz) hk)
    have hfc := run_firstCells_some (P := P) w k' m2 ad m2 c2 news hl (fun j v hv => hS.get hv)
    obtain ⟨ab, rfl⟩ : ∃ ab, a = some ab := by
      rcases ho.cases with ⟨_, rfl, _⟩ | ⟨gg, cur, rfl, _⟩
      · omega
      · exact ⟨_, rfl⟩
    have ha0 : (adr (some ab)).add 0 = ab := by simp [adr, Addr.add]
    rw [ha0] at hr
    have hrun : (Builtin.copy_ #[t, t] ty #[.slice (some ab) m c, .slice (some ad) m2 c2]).run P w = .ok (goInt m2) w' := by
      have hfc' : (Builtin.firstCells k' (Nat.min m2 m) (.slice (some ad) m2 c2)).run P w = .ok news.toArray w := by rw [hmin]; exact hfc
      simp [Builtin.copy_, run_underlying ht, sizeOf, typeInfo, hi, h3, Builtin.lenOf, hfc', hr]
      rw [hmin]
    exact d_run (v := .int .i64 (m2 : Int)) (w' := w') (by simp [execOp, resolve, invoke, builtin, hs, hx, hrun, goInt]) (k w' hf ho')
/-- make([]T, 0, c) -/
theorem d_make0 {lo hi : Operand} {t el : TypeId} {z : Value} {k' by' c : Nat} {kl kc : IntKind}
    (ht : P.underlying t = some (.slice el)) (hI : Inf P el z k' by') (hl : ev n e lo = .int kl 0) (hc : ev n e hi = .int kc (c : Int)) (hsz : by' * c ≤ 281474976710656) (h63 : c ≤ maxLen)
    (k : ∀ w' b, Fr [] w w' → w.heap.size ≤ b → Own w' el k' (some ⟨b, 0, none⟩) 0 c [] → K (upd e d (.slice (some ⟨b, 0, none⟩) 0 c)) w') :
    Does P Q n ⟨some d, .makeSlice t lo hi, ty, pos, af, g⟩ e w K := by
  obtain ⟨i, hi', h2, h3, h4⟩ := hI.parts
  subst h4
  obtain ⟨w', hr, ho, hg⟩ := run_make_own (P := P) w 0 t el i z k' ht hi' h2 h3 kl kc c hsz h63 (Nat.zero_le _)
  exact d_run (v := .slice (some ⟨w.heap.size, 0, none⟩) 0 c) (w' := w') (by simp [execOp, hl, hc, hr]) (k w' _ (Fr.grown0 hg) (Nat.le_refl _) ho)
/-- make([]T, c) -/
theorem d_makeN {lo hi : Operand} {t el : TypeId} {z : Value} {k' by' c : Nat} {kl kc : IntKind}
    (ht : P.underlying t = some (.slice el)) (hI : Inf P el z k' by') (hl : ev n e lo = .int kl (c : Int)) (hc : ev n e hi = .int kc (c : Int)) (hsz : by' * c ≤ 281474976710656) (h63 : c ≤ maxLen)
    (k : ∀ w' b, Fr [] w w' → w.heap.size ≤ b → Own w' el k' (some ⟨b, 0, none⟩) c c (madeCells z.cells (c * k')).toList → K (upd e d (.slice (some ⟨b, 0, none⟩) c c)) w') :
    Does P Q n ⟨some d, .makeSlice t lo hi, ty, pos, af, g⟩ e w K := by
  obtain ⟨i, hi', h2, h3, h4⟩ := hI.parts
  subst h4
  obtain ⟨w', hr, ho, hg⟩ := run_make_full (P := P) w 0 t el i z k' ht hi' h2 h3 kl kc c hsz h63 (Nat.zero_le _)
  exact d_run (v := .slice (some ⟨w.heap.size, 0, none⟩) c c) (w' := w') (by simp [execOp, hl, hc, hr]) (k w' _ (Fr.grown0 hg) (Nat.le_refl _) ho)
/-- a literal slice -/
def litCells (P : Program) (t : TypeId) (len : Nat) (parts : List (Nat × Value)) : Option (TypeId × Nat × Array Value) := match P.underlying t with
  | some (.slice el) => match P.info? el with
    | some i => match i.zero with
      | some z => if len * i.size ≤ 4096 then (Instr.fill (fun j => some (j * i.size, i.size)) (if len * i.size = 0 then #[] else (Array.range (len * i.size)).map (z.cells[· % z.cells.size]!)) parts).map fun c => (el, i.size, c) else none
      | none => none
    | none => none
  | _ => none
theorem d_lit {t el : TypeId} {k' len : Nat} {pl : List (Nat × Operand)} {ps : List (Nat × Value)} {cells : Array Value} (hp : pl.map (fun p => (p.1, ev n e p.2)) = ps) (h : litCells P t len ps = some (el, k', cells)) (hsz : cells.size = len * k') (hm : len ≤ 4096)
    (k : ∀ w' b, Fr [] w w' → w.heap.size ≤ b → Own w' el k' (some ⟨b, 0, none⟩) len len cells.toList → K (upd e d (.slice (some ⟨b, 0, none⟩) len len)) w') :
    Does P Q n ⟨some d, .buildSlice t len pl.toArray, ty, pos, af, g⟩ e w K := by
  have hp' : List.map (fun x => match x with | (i, x) => (i, ev n e x)) pl = ps := hp
  unfold litCells at h
  split at h
  · rename_i el' hu
    split at h
    · rename_i i hi
      split at h
      · rename_i z hz
        split at h
        · rename_i hle
          obtain ⟨c, hc, heq⟩ := Option.map_eq_some_iff.1 h
          simp only [Prod.mk.injEq] at heq
          obtain ⟨rfl, rfl, rfl⟩ := heq
          refine d_run (v := .slice (some ⟨w.heap.size, 0, none⟩) len len) (w' := w.alloc (.cells c el')) ?_ (k _ _ (Fr.alloc _ _) (Nat.le_refl _) ?_)
          · have hb : ¬ (2 ^ 24 < len * i.size) := by omega
            simp only [execOp, List.map_toArray, hp', Instr.buildSlice]
            by_cases h0 : len * i.size = 0
            · simp only [h0, if_true] at hc
              simp [run_underlying hu, sizeOf, typeInfo, hi, h0, hc, newRow, Array.range_zero']
            · simp only [h0, if_false] at hc
              have hb' : ¬ (16777216 < len * i.size) := by omega
              simp [run_underlying hu, sizeOf, typeInfo, zeroValue, hi, hz, h0, hb', hc, newRow]
          · exact World.ownsRow_lit w c len (Nat.zero_le _) (by simp [maxLen]; omega) hsz
        · cases h
      · cases h
    · cases h
  · cases h
end
end Go.Sy
