/- The arguments of a law, opened: what a slice that came in shows. No condition. -/
import Derived.Test.YtnhpfhhpochgfaaPCode
import Derived.WalkKit
import Derived.ProofKit
import Derived.OpenShut
import Derived.ShutString
import Derived.ChangeOld
import Derived.SizedLaws
import Derived.Carry
import Derived.ChangeSlices
import Derived.Deep.Slices
import Derived.Deep.Fields
namespace Go.Sy
open Go.ChangeShapes Go.WideShapes Go.ChangeAt Go.RowKit
set_option linter.unusedVariables false
set_option linter.unusedSectionVars false

section
variable {H : Type} {enc : TypeId × Value → H} {P : Program} {w : World} {base b0 : Nat} {spare : Nat → Bool} {held : Bool} {r : Reach}
theorem shape_lt {b : Nat} {x : TypeId × Nat} (h : w.shape? b = some x) : b < w.heap.size := by
  unfold World.shape? at h
  rcases Nat.lt_or_ge b w.heap.size with h' | h'
  · exact h'
  · simp [Array.getElem?_eq_none h'] at h
theorem okWide_slice_lt {t e : TypeId} {a : Addr} {n c : Nat} (ht : P.underlying t = some (.slice e)) (h : Value.okWide P w r b0 t (.slice (some a) n c)) : a.block < w.heap.size ∧ n ≤ c := by
  simp only [Value.okWide, ht, Cell.okWide, Cell.ok, World.has] at h
  obtain ⟨h1, _, _, _, row, cells, h2, _⟩ := h
  exact ⟨shape_lt h2, h1⟩
/-- bytes -/
theorem open_bytes {t e : TypeId} {v : Value} {d : DataW H} {p : List MemPlace} (ht : P.underlying t = some (.slice e)) (he : P.underlying e = some (.int .u8)) (hc : P.cellsOf e = 1)
    (hv : Value.okWide P w r b0 t v) (h : DataW.Trod enc P w base spare held t v d p) :
    ∃ (a : Option Addr) (bs : List UInt8) (c : Nat), v = .slice a bs.length c ∧ Ro w a bs.length c (bv bs) := by
  obtain ⟨a, n, c, rfl⟩ := okWide_slice ht hv
  obtain ⟨fuel, hf⟩ := h
  rcases open_ints ht he hc hf with ⟨hcs, _⟩ | ⟨x, l, k, zs, hcs, _, hl, hm, hz, _, hcell, hwz⟩
  · simp [Value.cells] at hcs
    obtain ⟨rfl, rfl, rfl⟩ := hcs
    exact ⟨none, [], 0, rfl, Ro.nil w⟩
  · simp [Value.cells] at hcs
    obtain ⟨rfl, rfl, rfl⟩ := hcs
    have hzn : n ≤ zs.length := by rw [hz]; split <;> omega
    have hlen : ((zs.take n).map fun z => UInt8.ofNat z.toNat).length = n := by simp; omega
    refine ⟨some x, (zs.take n).map fun z => UInt8.ofNat z.toNat, c, by rw [hlen], ?_⟩
    rw [hlen]
    refine ⟨?_, hl, fun y hy => by simp [ob] at hy; subst hy; exact (okWide_slice_lt ht hv).1⟩
    intro j u hu
    refine ⟨x, rfl, ?_⟩
    have hj : j < n := by have := (List.getElem?_eq_some_iff.1 hu).1; rw [bv_len, hlen] at this; exact this
    rw [hcell j (by omega)]
    have hzj : zs[j]? = some (zs[j]'(by omega)) := List.getElem?_eq_getElem (by omega)
    have hw := hwz (zs[j]'(by omega)) (List.getElem_mem _)
    have h0 : 0 ≤ zs[j]'(by omega) ∧ zs[j]'(by omega) ≤ 255 := by
      simpa [Lit.wf, IntKind.min, IntKind.max, IntKind.bits, IntKind.signed] using hw
    have e1 : (bv ((zs.take n).map fun z => UInt8.ofNat z.toNat))[j]? = some (Value.int .u8 (((UInt8.ofNat (zs[j]'(by omega)).toNat).toNat : Nat) : Int)) := by
      simp [bv, hj, hzj]
    rw [e1] at hu
    rw [← Option.some.inj hu]
    rw [List.getD_eq_getElem?_getD, hzj, UInt8.toNat_ofNat']
    simp only [Option.getD_some]
    congr 2
    omega
theorem flat_at {β : Type} {k : Nat} : ∀ {l : List (List β)} (_ : ∀ row ∈ l, row.length = k) (_ : 0 < k) {j : Nat} {u : β} (_ : (l.flatMap id)[j]? = some u), ∃ row, l[j / k]? = some row ∧ row[j % k]? = some u
  | [], _, _, j, u, h => by simp at h
  | y :: l, hl, hk, j, u, h => by
    rw [List.flatMap_cons] at h
    have hy : y.length = k := hl y (by simp)
    rcases Nat.lt_or_ge j k with h' | h'
    · rw [List.getElem?_append_left (by simpa [hy] using h')] at h
      rw [Nat.div_eq_of_lt h', Nat.mod_eq_of_lt h']
      exact ⟨y, rfl, h⟩
    · rw [List.getElem?_append_right (by simpa [hy] using h')] at h
      obtain ⟨x, hx, hu⟩ := flat_at (l := l) (fun row hr => hl row (List.mem_cons_of_mem _ hr)) hk (j := j - k) (by have e : (id y : List β).length = k := hy; rw [e] at h; exact h)
      have e1 : j / k = (j - k) / k + 1 := Nat.div_eq_sub_div hk h'
      have e2 : j % k = (j - k) % k := Nat.mod_eq_sub_mod h'
      rw [e1, e2]
      exact ⟨x, hx, hu⟩
/-! rows of structs of whole numbers, truth values, texts -/
theorem weights_mem_all {e : TypeId} : ∀ {l : List (DataW H)} {d : DataW H}, d ∈ l → ∀ n ∈ d.weights P e, n ∈ DataW.weightsAll P e l
  | d0 :: l, d, hd, n, hn => by
    simp only [DataW.weightsAll, List.mem_append]
    rcases List.mem_cons.1 hd with rfl | hd
    · exact .inl hn
    · exact .inr (weights_mem_all hd n hn)
def cellOk : Kd → Value → Prop
  | .i k, .int k' n => k' = k ∧ k.min ≤ n ∧ n ≤ k.max
  | .b, .bool _ => True
  | .s, .string s => s.size ≤ 140737488351232
  | _, _ => False
def rowOk (ks : List Kd) (row : List Value) : Prop := row.length = ks.length ∧ ∀ (j : Nat) k v, ks[j]? = some k → row[j]? = some v → cellOk k v
theorem trod_cell {t : TypeId} {k : Kd} {v : Value} {fuel : Nat} {y : DataW H × List MemPlace} (hk : kindOf P t = some k) (h : DataW.trod enc P w base spare held fuel t [v] = some y)
    (hw : ∀ n ∈ y.1.weights P t, n ≤ reachBytes) : cellOk k v := by
  unfold kindOf at hk
  split at hk
  · rename_i kk hu
    cases hk
    obtain ⟨n, hc, _, hwf⟩ := DataW.trod_int hu h
    obtain rfl : v = _ := by simpa using hc
    simp only [Lit.wf, Bool.and_eq_true, decide_eq_true_eq] at hwf
    exact ⟨rfl, hwf.1, hwf.2⟩
  · rename_i hu
    cases hk
    obtain ⟨b, hc, _⟩ := DataW.trod_bool hu h
    obtain rfl : v = _ := by simpa using hc
    exact trivial
  · rename_i hu
    cases hk
    obtain ⟨s, hc, rfl, _⟩ := DataW.trod_string hu h
    obtain rfl : v = _ := by simpa using hc
    have := hw s.data.toList.length (by simp [DataW.weights])
    rw [← size_eq] at this
    exact this
  · cases hk
theorem ksFrom_spec : ∀ {fs : List Field} {ks : List Kd} {n : Nat}, ksFrom P n fs = some ks → ks.length = fs.length ∧ ∀ (j : Nat) f, fs[j]? = some f → ∃ k, ks[j]? = some k ∧ kindOf P f.type = some k ∧ f.offset = n + j
  | [], ks, n, h => by simp only [ksFrom, Option.some.injEq] at h; subst h; exact ⟨rfl, fun j f hf => by simp at hf⟩
  | f :: fs, ks, n, h => by
    rw [ksFrom] at h
    split at h
    · rename_i hc
      simp only [Bool.and_eq_true, bne_iff_ne, ne_eq, beq_iff_eq] at hc
      obtain ⟨k, hk, h⟩ := Option.bind_eq_some_iff.1 h
      obtain ⟨l, hl, rfl⟩ := Option.map_eq_some_iff.1 h
      obtain ⟨h1, h2⟩ := ksFrom_spec hl
      refine ⟨by simp [h1], fun j g hg => ?_⟩
      cases j with
      | zero => simp at hg; subst hg; exact ⟨k, rfl, hk, by omega⟩
      | succ j =>
        obtain ⟨k', a, b, c⟩ := h2 j g (by simpa using hg)
        exact ⟨k', by simpa using a, b, by omega⟩
    · cases h
theorem list_of {α : Type} {p : Nat → α → Prop} : ∀ n, (∀ i, i < n → ∃ x, p i x) → ∃ l : List α, l.length = n ∧ ∀ i x, l[i]? = some x → p i x
  | 0, _ => ⟨[], rfl, fun i x h => by simp at h⟩
  | n + 1, h => by
    obtain ⟨l, h1, h2⟩ := list_of n (fun i hi => h i (by omega))
    obtain ⟨x, hx⟩ := h n (by omega)
    refine ⟨l ++ [x], by simp [h1], fun i y hy => ?_⟩
    rcases Nat.lt_trichotomy i n with h' | h' | h'
    · rw [List.getElem?_append_left (by omega)] at hy; exact h2 i y hy
    · subst h'
      rw [List.getElem?_append_right (by omega), h1] at hy
      simp at hy; subst hy; exact hx
    · rw [List.getElem?_eq_none (by simp; omega)] at hy; cases hy
theorem flat_some {α β : Type} {k : Nat} {f : α → List β} (hf : ∀ x, (f x).length = k) (hk : 0 < k) : ∀ {l : List α} {j : Nat} {u : β}, (l.flatMap f)[j]? = some u → ∃ x, l[j / k]? = some x ∧ (f x)[j % k]? = some u := by
  intro l
  induction l with
  | nil => intro j u h; simp at h
  | cons y l ih =>
    intro j u h
    rw [List.flatMap_cons] at h
    rcases Nat.lt_or_ge j k with h' | h'
    · rw [List.getElem?_append_left (by rw [hf]; exact h')] at h
      rw [Nat.div_eq_of_lt h', Nat.mod_eq_of_lt h']
      exact ⟨y, rfl, h⟩
    · rw [List.getElem?_append_right (by rw [hf]; exact h'), hf] at h
      obtain ⟨x, hx, hu⟩ := ih h
      have e1 : j / k = (j - k) / k + 1 := Nat.div_eq_sub_div hk h'
      have e2 : j % k = (j - k) % k := Nat.mod_eq_sub_mod h'
      rw [e1, e2]
      exact ⟨x, hx, hu⟩
theorem map_of {α β : Type} {f : α → β} {Q : α → Prop} : ∀ {l : List β}, (∀ y ∈ l, ∃ x, y = f x ∧ Q x) → ∃ l' : List α, l = l'.map f ∧ ∀ x ∈ l', Q x
  | [], _ => ⟨[], rfl, by simp⟩
  | y :: l, h => by
    obtain ⟨x, rfl, hq⟩ := h y (by simp)
    obtain ⟨l', h1, h2⟩ := map_of (l := l) (fun z hz => h z (by simp [hz]))
    exact ⟨x :: l', by simp [h1], fun z hz => (List.mem_cons.1 hz).elim (fun e => e ▸ hq) (h2 z)⟩
/-- a slice of structs, each cell a whole number, a truth value or a text -/
theorem open_flat {t e : TypeId} {fs : Array Field} {ks : List Kd} {v : Value} {d : DataW H} {p : List MemPlace} {ts : List TypeId} {dd : List (DataW H)} {i0 : Nat} (ht : P.underlying t = some (.slice e)) (he : P.underlying e = some (.struct fs))
    (hks : ksFrom P 0 fs.toList = some ks) (hone : Deep.oneCellFields P fs = true) (hC : P.cellsOf e = fs.size) (hpos : 0 < fs.size)
    (hsz : (DataW.weightsEach P ts dd).all (· ≤ reachBytes) = true) (hts : ts[i0]? = some t) (hdd : dd[i0]? = some d)
    (hv : Value.okWide P w r b0 t v) (h : DataW.Trod enc P w base spare held t v d p) :
    ∃ (a : Option Addr) (l : List (List Value)) (c : Nat), v = .slice a l.length c ∧ (∀ row ∈ l, rowOk ks row) ∧ Ro w a l.length c (l.flatMap id) := by
  obtain ⟨a, n, c, rfl⟩ := okWide_slice ht hv
  obtain ⟨fuel, hf⟩ := h
  rcases Deep.open_slice ht hf with ⟨hcs, hd⟩ | ⟨x, len, cap, m, nn, D, Pl, hcs, _, hl, hm, hmm, hx, hi⟩
  · simp [Value.cells] at hcs
    obtain ⟨rfl, rfl, rfl⟩ := hcs
    exact ⟨none, [], 0, rfl, by simp, Ro.nil w⟩
  · simp [Value.cells] at hcs
    obtain ⟨rfl, rfl, rfl⟩ := hcs
    have hnm : n ≤ m := by rw [hmm]; split <;> omega
    obtain ⟨hkl, hkf⟩ := ksFrom_spec hks
    have hdx : d = .slice ((List.range n).map D) ((List.range (m - n)).map fun j => D (n + j)) := (Prod.mk.inj hx).1
    have hD : ∀ i, i < n → ∀ q ∈ (D i).weights P e, q ≤ reachBytes := by
      intro i hin q hq
      have h1 : q ∈ d.weights P t := by
        rw [hdx]
        simp only [DataW.weights, ht, List.mem_cons, List.mem_append]
        exact .inr (.inl (weights_mem_all (List.mem_map.2 ⟨i, List.mem_range.2 hin, rfl⟩) q hq))
      have := List.all_eq_true.1 hsz _ (DataW.weights_mem_each hts hdd q h1)
      simpa using this
    have key : ∀ i, i < n → ∃ row : List Value, rowOk ks row ∧ ∀ j u, row[j]? = some u → w.cell? (x.add (i * fs.size + j)) = some u := by
      intro i hin
      obtain ⟨cs', hc, ht'⟩ := hi i (by omega)
      rw [hC] at hc
      obtain ⟨ys, n', hn', hy, hlen, hyl, hfd⟩ := DataW.trod_struct he ht'
      obtain ⟨_, hcl, hat⟩ := World.cells?_some hc
      refine ⟨cs', ⟨by rw [hkl, hcl]; simp, fun j k u hk hu => ?_⟩, fun j u hu => ?_⟩
      · have hj : j < fs.size := by have := get_lt hk; rw [hkl] at this; simpa using this
        have hfj : fs[j]? = some (fs[j]'hj) := Array.getElem?_eq_getElem hj
        obtain ⟨k', h1, h2, h3⟩ := hkf j (fs[j]'hj) (by rw [Array.getElem?_toList]; exact hfj)
        rw [hk] at h1
        obtain rfl := Option.some.inj h1
        obtain ⟨ho, hk1⟩ := Deep.hone_of hone j _ hfj
        have h4 := hfd j _ hfj
        rw [ho, hk1] at h4
        have e1 : (cs'.drop j).take 1 = [u] := by
          have hjl : j < cs'.length := by omega
          have : u = cs'[j] := by rw [List.getElem?_eq_getElem hjl] at hu; exact (Option.some.inj hu).symm
          rw [List.drop_eq_getElem_cons hjl, this]
          rfl
        rw [e1] at h4
        have hys : ys[j]? = some (ys[j]'(by omega)) := List.getElem?_eq_getElem (by omega)
        refine trod_cell h2 (h4.trans hys) ?_
        intro q hq
        refine hD i hin q ?_
        have e2 : D i = .agg (ys.map (·.1)) := (Prod.mk.inj hy).1
        rw [e2]
        simp only [DataW.weights, he]
        refine DataW.weights_mem_each (j := j) (t := (fs[j]'hj).type) (d := (ys[j]'(by omega)).1) ?_ ?_ q hq
        · simp [hfj]
        · simp [hys]
      · have hj : j < fs.size := by have := get_lt hu; omega
        have h5 := hat j hj
        rw [← Deep.add_add, h5, hu]
    obtain ⟨l, h1, h2⟩ := list_of n key
    refine ⟨some x, l, c, by rw [h1], fun row hr => ?_, ?_⟩
    · obtain ⟨i, hi'⟩ := List.mem_iff_getElem?.1 hr
      exact (h2 i row hi').1
    · rw [h1]
      refine ⟨?_, hl, fun y hy => by simp [ob] at hy; subst hy; exact (okWide_slice_lt ht hv).1⟩
      intro j u hu
      refine ⟨x, rfl, ?_⟩
      have hlen : ∀ row ∈ l, row.length = fs.size := by
        intro row hr
        obtain ⟨i, hi'⟩ := List.mem_iff_getElem?.1 hr
        rw [(h2 i row hi').1.1, hkl, Array.length_toList]
      obtain ⟨row, hrow, hru⟩ := flat_at hlen hpos hu
      have := (h2 _ row hrow).2 _ u hru
      rw [Nat.mul_comm, Nat.div_add_mod] at this
      exact this
end
end Go.Sy
