/- Plain: readers of bytes, numbers taken off. No program in sight; no condition. -/
import Derived.Test.YtnhpfhhpochgfaaPCode
namespace Go.Sy
set_option linter.unusedVariables false
set_option linter.unusedSimpArgs false

/-! ### patterns of groups -/
def val7 : List UInt8 → Nat
  | [] => 0
  | b :: r => b.toNat % 128 + 128 * val7 r
def Pat : List UInt8 → Prop
  | [] => False
  | [b] => b.toNat < 128
  | b :: r => 128 ≤ b.toNat ∧ Pat r
theorem pat_one {b : UInt8} : Pat [b] ↔ b.toNat < 128 := Iff.rfl
theorem pat_cons {b : UInt8} {r : List UInt8} (h : r ≠ []) : Pat (b :: r) ↔ 128 ≤ b.toNat ∧ Pat r := by
  cases r with
  | nil => exact absurd rfl h
  | cons c r => exact Iff.rfl
theorem pat_ne {m : List UInt8} (h : Pat m) : m ≠ [] := by rintro rfl; exact h
theorem grp_ne (u : Nat) : grp u ≠ [] := by
  intro h
  have := grp_len u
  have := ngr_pos u
  rw [h] at *
  simp at *
  omega
theorem u8_small {x : Nat} (h : x < 256) : (UInt8.ofNat x).toNat = x := by rw [UInt8.toNat_ofNat']; omega
theorem pat_grp (u : Nat) : Pat (grp u) := by
  induction u using Nat.strongRecOn with
  | _ u ih =>
    by_cases h : u < 128
    · rw [grp_small h, pat_one, u8_small (by omega)]; exact h
    · rw [grp_more (by omega), pat_cons (grp_ne _)]
      exact ⟨by rw [u8_small (by omega)]; omega, ih _ (by omega)⟩
theorem val_grp (u : Nat) : val7 (grp u) = u := by
  induction u using Nat.strongRecOn with
  | _ u ih =>
    by_cases h : u < 128
    · rw [grp_small h]; simp [val7]; omega
    · rw [grp_more (by omega), val7, ih _ (by omega), u8_small (by omega)]; omega
theorem pat_eq {m : List UInt8} (h : Pat m) (hn : ngr (val7 m) = m.length) : m = grp (val7 m) := by
  induction m with
  | nil => exact absurd h (by simp [Pat])
  | cons b r ih =>
    by_cases hr : r = []
    · subst hr
      have hb : b.toNat < 128 := h
      have e : val7 [b] = b.toNat := by simp [val7]; omega
      rw [e, grp_small hb]
      simp
    · obtain ⟨hb, hp⟩ := (pat_cons hr).1 h
      have hl : 1 ≤ r.length := by cases r with | nil => exact absurd rfl hr | cons => simp
      have hv : 128 ≤ val7 (b :: r) := by
        rcases Nat.lt_or_ge (val7 (b :: r)) 128 with h' | h'
        · rw [ngr_one h', List.length_cons] at hn; omega
        · exact h'
      have e1 : val7 (b :: r) / 128 = val7 r := by rw [val7]; omega
      have e2 : val7 (b :: r) % 128 = b.toNat % 128 := by rw [val7]; omega
      rw [ngr_more hv, e1, List.length_cons] at hn
      rw [grp_more hv, e1, e2, ← ih hp (by omega)]
      congr 1
      have hb2 := b.toNat_lt
      have e : 128 + b.toNat % 128 = b.toNat := by omega
      rw [e]; simp
theorem pat_prefix : ∀ {m m' l : List UInt8}, Pat m → Pat m' → m <+: l → m' <+: l → m = m' := by
  intro m
  induction m with
  | nil => intro m' l h; exact absurd h (by simp [Pat])
  | cons b r ih =>
    intro m' l h h' hp hp'
    cases m' with
    | nil => exact absurd h' (by simp [Pat])
    | cons b' r' =>
      obtain ⟨t, rfl⟩ := hp
      rw [List.cons_append, List.cons_prefix_cons] at hp'
      obtain ⟨rfl, hp'⟩ := hp'
      by_cases hr : r = []
      · subst hr
        by_cases hr' : r' = []
        · rw [hr']
        · have h1 : b'.toNat < 128 := h
          have := ((pat_cons hr').1 h').1
          omega
      · by_cases hr' : r' = []
        · subst hr'
          have h1 : b'.toNat < 128 := h'
          have := ((pat_cons hr).1 h).1
          omega
        · rw [ih ((pat_cons hr).1 h).2 ((pat_cons hr').1 h').2 ⟨t, rfl⟩ hp']
theorem grp_prefix {u v : Nat} {l : List UInt8} (h : grp u <+: l) (h' : grp v <+: l) : u = v := by
  have := pat_prefix (pat_grp u) (pat_grp v) h h'
  rw [← val_grp u, ← val_grp v, this]

/-! ### the number that stands ahead -/
open Classical in
noncomputable def numU (l : List UInt8) : Nat := if h : ∃ u, u < 18446744073709551616 ∧ grp u <+: l then h.choose else 0
open Classical in
noncomputable def numN (l : List UInt8) : Nat := if ∃ u, u < 18446744073709551616 ∧ grp u <+: l then ngr (numU l) else 0
theorem num_some {u : Nat} {l : List UInt8} (hu : u < 18446744073709551616) (h : grp u <+: l) : numU l = u ∧ numN l = ngr u := by
  have he : ∃ u, u < 18446744073709551616 ∧ grp u <+: l := ⟨u, hu, h⟩
  have e : numU l = u := by
    unfold numU
    rw [dif_pos he]
    exact grp_prefix he.choose_spec.2 h
  refine ⟨e, ?_⟩
  unfold numN
  rw [if_pos he, e]
theorem num_none {l : List UInt8} (h : ∀ u, u < 18446744073709551616 → ¬ grp u <+: l) : numU l = 0 ∧ numN l = 0 := by
  have he : ¬ ∃ u, u < 18446744073709551616 ∧ grp u <+: l := fun ⟨u, hu, hp⟩ => h u hu hp
  unfold numU numN
  rw [dif_neg he, if_neg he]
  exact ⟨rfl, rfl⟩
theorem num_cases (l : List UInt8) : (numU l = 0 ∧ numN l = 0) ∨ (numU l < 18446744073709551616 ∧ numN l = ngr (numU l) ∧ 1 ≤ numN l ∧ grp (numU l) <+: l ∧ numN l ≤ 10 ∧ numN l ≤ l.length) := by
  by_cases he : ∃ u, u < 18446744073709551616 ∧ grp u <+: l
  · obtain ⟨u, hu, hp⟩ := he
    obtain ⟨h1, h2⟩ := num_some hu hp
    right
    have := ngr_pos u
    have := ngr_le hu
    have h3 := hp.length_le
    rw [grp_len] at h3
    rw [h2, h1]
    exact ⟨hu, rfl, by omega, hp, by omega, by omega⟩
  · exact .inl (num_none fun u hu hp => he ⟨u, hu, hp⟩)
theorem numU_lt (l : List UInt8) : numU l < 18446744073709551616 := by rcases num_cases l with h | h <;> omega
theorem numN_le (l : List UInt8) : numN l ≤ l.length := by rcases num_cases l with h | h <;> omega

/-! the loops of the program -/
theorem grp_get {u k : Nat} (h : k < ngr u) : (grp u)[k]? = some (dig u k (ngr u)) := by
  rw [← digs_all u]
  simp [digs, h]
theorem dig_last_lt {u k n : Nat} (h : k + 1 = n) : (dig u k n).toNat = u / 128 ^ k % 128 := by
  simp [dig, h]; omega
theorem dig_more_ge {u k n : Nat} (h : ¬ k + 1 = n) : (dig u k n).toNat = 128 + u / 128 ^ k % 128 := by
  simp [dig, h]; omega
theorem pre_get {u k : Nat} {l : List UInt8} {b : UInt8} (h : grp u <+: l) (hk : k < ngr u) (hb : l[k]? = some b) : b = dig u k (ngr u) := by
  obtain ⟨t, rfl⟩ := h
  rw [List.getElem?_append_left (by rw [grp_len]; exact hk), grp_get hk] at hb
  exact (Option.some.inj hb).symm
/-- where the first byte stands that is below 128 -/
theorem pre_first {u k : Nat} {l : List UInt8} (h : grp u <+: l) (hall : ∀ j, j < k → ∀ b, l[j]? = some b → 128 ≤ b.toNat) (hk : k < l.length → ∀ b, l[k]? = some b → b.toNat < 128 ∨ 10 ≤ k) (hu : u < 18446744073709551616) :
    k + 1 = ngr u ∨ (k = 10 ∧ False) := by
  have hp := ngr_pos u
  have hn := ngr_le hu
  have hl := h.length_le
  rw [grp_len] at hl
  left
  rcases Nat.lt_trichotomy (k + 1) (ngr u) with h1 | h1 | h1
  · exfalso
    have hkl : k < l.length := by omega
    have hb := List.getElem?_eq_getElem hkl
    rcases hk hkl _ hb with h2 | h2
    · have := pre_get h (by omega) hb
      rw [this, dig_more_ge (by omega)] at h2
      omega
    · omega
  · exact h1
  · exfalso
    have hkl : ngr u - 1 < l.length := by omega
    have hb := List.getElem?_eq_getElem hkl
    have h2 := hall _ (by omega) _ hb
    have := pre_get h (by omega) hb
    rw [this, dig_last_lt (by omega)] at h2
    omega
/-- the first m groups, from the k-th on -/
def seg (l : List UInt8) (k m : Nat) : List UInt8 := (l.take m).drop k
theorem seg_end (l : List UInt8) (m : Nat) : val7 (seg l m m) = 0 := by
  have : seg l m m = [] := by unfold seg; apply List.drop_eq_nil_of_le; simp; omega
  rw [this]; rfl
theorem seg_cons {l : List UInt8} {k m : Nat} {b : UInt8} (hk : k < m) (hb : l[k]? = some b) : seg l k m = b :: seg l (k + 1) m := by
  unfold seg
  obtain ⟨h1, h2⟩ := List.getElem?_eq_some_iff.1 hb
  rw [List.drop_eq_getElem_cons (by simp; omega)]
  simp [h2]
theorem val_lt (m : List UInt8) : val7 m < 128 ^ m.length := by
  induction m with
  | nil => simp [val7]
  | cons b r ih =>
    rw [val7, List.length_cons, Nat.pow_succ]
    omega
theorem seg_len {l : List UInt8} {k m : Nat} (hm : m ≤ l.length) : (seg l k m).length = m - k := by unfold seg; simp; omega
theorem val_app (m r : List UInt8) : val7 (m ++ r) = val7 m + 128 ^ m.length * val7 r := by
  induction m with
  | nil => simp [val7]
  | cons b m ih => rw [List.cons_append, val7, ih, val7, List.length_cons, Nat.pow_succ, Nat.mul_add]; generalize 128 ^ m.length = p; rw [Nat.mul_comm p 128, Nat.mul_assoc]; omega
theorem seg_snoc {l : List UInt8} {j k : Nat} {b : UInt8} (hj : j ≤ k) (hb : l[k]? = some b) : seg l j (k + 1) = seg l j k ++ [b] := by
  unfold seg
  obtain ⟨h1, h2⟩ := List.getElem?_eq_some_iff.1 hb
  rw [List.take_succ_eq_append_getElem h1, List.drop_append_of_le_length (by simp; omega), h2]
theorem seg_bound {l : List UInt8} {j k : Nat} {b : UInt8} (hb : l[k]? = some b) (hk : k ≤ 9) (h9 : k = 9 → b.toNat ≤ 1) (h1 : 1 ≤ j) (hj : j ≤ k + 1) : val7 (seg l j (k + 1)) * 128 < 18446744073709551616 := by
  have hkl := (List.getElem?_eq_some_iff.1 hb).1
  by_cases h : k = 9
  · subst h
    by_cases hj9 : j = 10
    · subst hj9; rw [seg_end]; omega
    · rw [seg_snoc (by omega) hb, val_app, seg_len (by omega)]
      have hv := val_lt (seg l j 9)
      rw [seg_len (by omega)] at hv
      have hp : (128 : Nat) ^ (9 - j) ≤ 128 ^ 8 := Nat.pow_le_pow_right (by decide) (by omega)
      have e : val7 [b] ≤ 1 := by simp [val7]; have := h9 rfl; omega
      have hm : 128 ^ (9 - j) * val7 [b] ≤ 128 ^ (9 - j) := by
        have := Nat.mul_le_mul_left (128 ^ (9 - j)) e
        omega
      have e8 : (128 : Nat) ^ 8 = 72057594037927936 := by decide
      omega
  · have hv := val_lt (seg l j (k + 1))
    rw [seg_len (by omega)] at hv
    have hp : (128 : Nat) ^ (k + 1 - j) ≤ 128 ^ 8 := Nat.pow_le_pow_right (by decide) (by omega)
    have e8 : (128 : Nat) ^ 8 = 72057594037927936 := by decide
    omega
theorem seg_step {l : List UInt8} {j k : Nat} {b : UInt8} (hj : j < k) (hb : l[j]? = some b) : val7 (seg l j k) = val7 (seg l (j + 1) k) * 128 + b.toNat % 128 := by
  rw [seg_cons hj hb, val7]; omega
theorem seg_all {l : List UInt8} {k : Nat} {b : UInt8} (hb : l[k]? = some b) (hk : k ≤ 9) (h9 : k = 9 → b.toNat ≤ 1) : val7 (seg l 0 (k + 1)) < 18446744073709551616 := by
  have hkl := (List.getElem?_eq_some_iff.1 hb).1
  have h1 := seg_bound (j := 1) hb hk h9 (by omega) (by omega)
  have h2 := seg_step (l := l) (j := 0) (k := k + 1) (b := l[0]'(by omega)) (by omega) (List.getElem?_eq_getElem _)
  rw [h2]
  simp only [Nat.zero_add]
  omega
theorem pat_take : ∀ {k : Nat} {l : List UInt8} {b : UInt8}, (∀ j, j < k → ∀ c, l[j]? = some c → 128 ≤ c.toNat) → l[k]? = some b → b.toNat < 128 → Pat (l.take (k + 1)) := by
  intro k
  induction k with
  | zero =>
    intro l b _ hb h
    cases l with
    | nil => simp at hb
    | cons c r => simp at hb; subst hb; simp [pat_one, h]
  | succ k ih =>
    intro l b hall hb h
    cases l with
    | nil => simp at hb
    | cons c r =>
      simp only [List.getElem?_cons_succ] at hb
      rw [List.take_succ_cons]
      have hp := ih (l := r) (fun j hj d hd => hall (j + 1) (by omega) d (by simpa using hd)) hb h
      rw [pat_cons (pat_ne hp)]
      exact ⟨hall 0 (by omega) c rfl, hp⟩
/-- what the program finds behind the first loop -/
theorem num_end {l : List UInt8} {k : Nat} {b : UInt8} (hall : ∀ j, j < k → ∀ c, l[j]? = some c → 128 ≤ c.toNat) (hb : l[k]? = some b) (h : b.toNat < 128) (hu : val7 (seg l 0 (k + 1)) < 18446744073709551616) :
    if ngr (val7 (seg l 0 (k + 1))) = k + 1 then numU l = val7 (seg l 0 (k + 1)) ∧ numN l = k + 1 else numU l = 0 ∧ numN l = 0 := by
  have e : seg l 0 (k + 1) = l.take (k + 1) := by simp [seg]
  have hkl := (List.getElem?_eq_some_iff.1 hb).1
  have hp := pat_take hall hb h
  have hlen : (l.take (k + 1)).length = k + 1 := by simp; omega
  rw [e] at *
  split
  · rename_i hn
    have := pat_eq hp (by omega)
    have hpre : grp (val7 (l.take (k + 1))) <+: l := by rw [← this]; exact List.take_prefix _ _
    have := num_some hu hpre
    exact ⟨this.1, this.2.trans hn⟩
  · rename_i hn
    apply num_none
    intro u hu' hpre
    have := pat_prefix hp (pat_grp u) (List.take_prefix _ _) hpre
    apply hn
    rw [this, val_grp, ← grp_len, ← this, hlen]
theorem num_long {l : List UInt8} {k : Nat} (hall : ∀ j, j < k → ∀ c, l[j]? = some c → 128 ≤ c.toNat) (h : l.length ≤ k ∨ 10 ≤ k) : numU l = 0 ∧ numN l = 0 := by
  apply num_none
  intro u hu hpre
  have hl := hpre.length_le
  rw [grp_len] at hl
  have := ngr_le hu
  rcases pre_first hpre hall (fun h1 c hc => .inr (by omega)) hu with h1 | h1
  · omega
  · exact h1.2
theorem num_ten {l : List UInt8} {k : Nat} {b : UInt8} (hall : ∀ j, j < k → ∀ c, l[j]? = some c → 128 ≤ c.toNat) (hk : k = 9) (hb : l[k]? = some b) (h : 1 < b.toNat) : numU l = 0 ∧ numN l = 0 := by
  subst hk
  by_cases hs : b.toNat < 128
  · apply num_none
    intro u hu hpre
    rcases pre_first hpre hall (fun h1 c hc => .inl (by rw [hb] at hc; cases hc; exact hs)) hu with h1 | h1
    · have := pre_get hpre (by omega) hb
      rw [this, dig_last_lt h1] at h
      have e9 : (128 : Nat) ^ 9 = 9223372036854775808 := by decide
      rw [e9] at h
      omega
    · exact h1.2
  · exact num_long (k := 10) (fun j hj c hc => by
      by_cases h9 : j = 9
      · subst h9; rw [hb] at hc; cases hc; omega
      · exact hall j (by omega) c hc) (.inr (by omega))
theorem not128b (b : UInt8) : bits .andNot .u8 ((b.toNat : Nat) : Int) 128 = ((b.toNat % 128 : Nat) : Int) := not128_all ⟨b.toNat, b.toNat_lt⟩
theorem or7 {x y : Nat} (hy : y < 128) (hx : x * 128 + y < 18446744073709551616) : bits .or .u64 ((x * 128 : Nat) : Int) ((y : Nat) : Int) = ((x * 128 + y : Nat) : Int) := by
  have e1 : (((x : Nat) : Int) * 128 % 2 ^ IntKind.u64.bits).toNat = x * 128 := by simp [IntKind.bits]; omega
  have e2 : y % 2 ^ IntKind.u64.bits = y := by simp [IntKind.bits]; omega
  have e3 : x * 128 ||| y = x * 128 + y := by
    have := (Nat.shiftLeft_add_eq_or_of_lt (i := 7) (b := y) (by simpa using hy) x).symm
    rw [Nat.shiftLeft_eq] at this
    exact this
  simp only [bits, Int.natCast_mul, Int.cast_ofNat_Int, e1, Int.toNat_emod, Int.toNat_natCast]
  simp
  rw [e1, e2, e3]
  rw [wu64 (by omega) (by omega) rfl]
  simp
theorem or_seg {l : List UInt8} {j k : Nat} {b : UInt8} (h1 : 1 ≤ j) (hj : j ≤ k) (hb : l[j - 1]? = some b) (hx : val7 (seg l j k) * 128 < 18446744073709551616) :
    bits .or .u64 ((val7 (seg l j k) * 128 : Nat) : Int) ((b.toNat % 128 : Nat) : Int) = ((val7 (seg l (j - 1) k) : Nat) : Int) := by
  obtain ⟨i, rfl⟩ : ∃ i, j = i + 1 := ⟨j - 1, by omega⟩
  simp only [Nat.add_sub_cancel] at hb ⊢
  rw [or7 (by omega) (by omega), seg_step (by omega) hb]
theorem shl7 {x : Nat} (h : x * 128 < 18446744073709551616) : IntKind.u64.wrap (((x : Nat) : Int) * 2 ^ (7 : Int).toNat) = ((x * 128 : Nat) : Int) := by
  have e : (2 : Int) ^ (7 : Int).toNat = 128 := rfl
  rw [e]
  exact wu64 (by omega) (by omega) (by omega)
theorem byte_get {s : ByteArray} {i : Int} {k : Nat} {x : UInt8} (hi : i = ((k : Nat) : Int)) (h : s.data.toList[k]? = some x) : s[i.toNat]? = some x := by
  subst hi
  rw [Array.getElem?_toList] at h
  rw [Int.toNat_natCast]
  obtain ⟨hk, hx⟩ := Array.getElem?_eq_some_iff.1 h
  have hk' : k < s.size := hk
  rw [getElem?_pos s k hk']
  exact congrArg some hx
theorem byte_some {s : ByteArray} {k : Nat} (h : k < s.size) : ∃ x, s.data.toList[k]? = some x := ⟨s.data.toList[k]'(by rw [← size_eq]; exact h), List.getElem?_eq_getElem _⟩
theorem hall_succ {l : List UInt8} {k : Nat} {x : UInt8} (hall : ∀ j, j < k → ∀ c, l[j]? = some c → 128 ≤ c.toNat) (hx : l[k]? = some x) (h : 128 ≤ x.toNat) : ∀ j, j < k + 1 → ∀ c, l[j]? = some c → 128 ≤ c.toNat := by
  intro j hj c hc
  rcases Nat.lt_or_ge j k with h' | h'
  · exact hall j h' c hc
  · have : j = k := by omega
    subst this
    rw [hx] at hc; cases hc; exact h
theorem ext_drop {s : ByteArray} {n : Nat} : s.extract (min n s.size) s.size = mkS (s.data.toList.drop n) := by
  apply ByteArray.ext
  rw [ByteArray.data_extract]
  apply Array.toList_inj.1
  rw [Array.toList_extract]
  simp only [mkS]
  have e : s.size = s.data.toList.length := size_eq s
  rw [e, List.extract_eq_take_drop, List.take_of_length_le (by simp)]
  rcases Nat.le_total n s.data.toList.length with h | h
  · rw [Nat.min_eq_left h]
  · rw [Nat.min_eq_right h, List.drop_eq_nil_of_le h, List.drop_eq_nil_of_le (Nat.le_refl _)]
theorem ext_mkS {l : List UInt8} {a b : Nat} : (mkS l).extract a b = mkS ((l.drop a).take (b - a)) := by
  apply ByteArray.ext
  rw [ByteArray.data_extract]
  apply Array.toList_inj.1
  rw [Array.toList_extract]
  simp [mkS, List.extract_eq_take_drop]

/-! ### readers: the bytes that are left, or none behind a failure -/
abbrev Rd := Option (List UInt8)
noncomputable def cntN (l : List UInt8) (above : Int) : Nat := if 2147483647 < numU l ∨ above < (numU l : Int) then 0 else numN l
noncomputable def cntU (l : List UInt8) (above : Int) : Nat := if 2147483647 < numU l ∨ above < (numU l : Int) then 0 else numU l
noncomputable def strN (l : List UInt8) (above : Int) : Nat := if cntN l above = 0 ∨ l.length < cntN l above + cntU l above then 0 else cntN l above + cntU l above
noncomputable def strV (l : List UInt8) (above : Int) : List UInt8 := if cntN l above = 0 ∨ l.length < cntN l above + cntU l above then [] else (l.drop (cntN l above)).take (cntU l above)
noncomputable def mCount (r : Rd) (above : Int) : Nat × Rd := match r with
  | none => (0, none)
  | some l => if cntN l above = 0 then (0, none) else (cntU l above, some (l.drop (cntN l above)))
noncomputable def mStr (r : Rd) (above : Int) : List UInt8 × Rd := match r with
  | none => ([], none)
  | some l => if strN l above = 0 then ([], none) else (strV l above, some (l.drop (strN l above)))
def rdP (s : ByteArray) (n : Nat) : Rd := if s.size < n then none else some (s.data.toList.drop n)
theorem rdP_none {s : ByteArray} {n : Nat} (h : s.size < n) : rdP s n = none := if_pos h
theorem rdP_some {s : ByteArray} {n : Nat} (h : ¬ s.size < n) : rdP s n = some (s.data.toList.drop n) := if_neg h
theorem cntN_le (l : List UInt8) (a : Int) : cntN l a ≤ l.length := by unfold cntN; split; omega; exact numN_le l
theorem cntU_le (l : List UInt8) (a : Int) : cntU l a ≤ 2147483647 := by unfold cntU; split <;> omega
theorem strN_le (l : List UInt8) (a : Int) : strN l a ≤ l.length := by unfold strN; split <;> omega
theorem count_ok {s : ByteArray} {n : Nat} {a : Int} (h : ¬ s.size < n) (h0 : ¬ cntN (s.data.toList.drop n) a = 0) : mCount (rdP s n) a = (cntU (s.data.toList.drop n) a, rdP s (n + cntN (s.data.toList.drop n) a)) := by
  have hl := cntN_le (s.data.toList.drop n) a
  rw [List.length_drop, ← size_eq] at hl
  rw [rdP_some h, rdP_some (by omega)]
  simp only [mCount, if_neg h0, List.drop_drop]
theorem count_zero {s : ByteArray} {n : Nat} {a : Int} (h : ¬ s.size < n) (h0 : cntN (s.data.toList.drop n) a = 0) : mCount (rdP s n) a = (0, rdP s (s.size + 1)) := by
  rw [rdP_some h, rdP_none (n := s.size + 1) (by omega)]
  simp only [mCount, if_pos h0]
theorem count_fail {s : ByteArray} {n : Nat} {a : Int} (h : s.size < n) : mCount (rdP s n) a = (0, rdP s n) := by rw [rdP_none h]; rfl
theorem str_ok {s : ByteArray} {n : Nat} {a : Int} (h : ¬ s.size < n) (h0 : ¬ strN (s.data.toList.drop n) a = 0) : mStr (rdP s n) a = (strV (s.data.toList.drop n) a, rdP s (n + strN (s.data.toList.drop n) a)) := by
  have hl := strN_le (s.data.toList.drop n) a
  rw [List.length_drop, ← size_eq] at hl
  rw [rdP_some h, rdP_some (by omega)]
  simp only [mStr, if_neg h0, List.drop_drop]
theorem str_zero {s : ByteArray} {n : Nat} {a : Int} (h : ¬ s.size < n) (h0 : strN (s.data.toList.drop n) a = 0) : mStr (rdP s n) a = ([], rdP s (s.size + 1)) := by
  rw [rdP_some h, rdP_none (n := s.size + 1) (by omega)]
  simp only [mStr, if_pos h0]
theorem str_fail {s : ByteArray} {n : Nat} {a : Int} (h : s.size < n) : mStr (rdP s n) a = ([], rdP s n) := by rw [rdP_none h]; rfl
theorem strV_le (l : List UInt8) (a : Int) : (strV l a).length ≤ l.length := by
  unfold strV
  split
  · simp
  · simp; omega
theorem mStr_le {r : Rd} {a : Int} {M : Nat} (h : ∀ l, r = some l → l.length ≤ M) : (mStr r a).1.length ≤ M := by
  cases r with
  | none => simp [mStr]
  | some l =>
    have := h l rfl
    have := strV_le l a
    simp only [mStr]
    split
    · simp
    · simp only []; omega
theorem rdP_len {s : ByteArray} {n : Nat} {l : List UInt8} (h : rdP s n = some l) : l.length ≤ s.size := by
  unfold rdP at h
  split at h
  · cases h
  · cases h; rw [List.length_drop, size_eq]; omega
theorem mStr_len (s : ByteArray) (n : Nat) (a : Int) : (mStr (rdP s n) a).1.length ≤ s.size := mStr_le fun _ h => rdP_len h
theorem mCount_le (r : Rd) (a : Int) : (mCount r a).1 ≤ 2147483647 := by
  cases r with
  | none => simp [mCount]
  | some l =>
    simp only [mCount]
    split
    · simp
    · exact cntU_le l a
theorem rem_nat (x y : Nat) : ((x : Nat) : Int).tmod ((y : Nat) : Int) = ((x % y : Nat) : Int) := rfl
theorem quo_natU {x y : Nat} (hx : x ≤ 18446744073709551615) : IntKind.u64.wrap (((x : Nat) : Int).tdiv ((y : Nat) : Int)) = ((x / y : Nat) : Int) := by
  have e : ((x : Nat) : Int).tdiv ((y : Nat) : Int) = ((x / y : Nat) : Int) := by
    rw [Int.tdiv_eq_ediv_of_nonneg (by omega)]; rfl
  rw [e]
  have : x / y ≤ x := Nat.div_le_self x y
  generalize x / y = z at *
  exact wu64 (by omega) (by omega) rfl
theorem mkS_app (l m : List UInt8) : mkS l ++ mkS m = mkS (l ++ m) := by
  apply ByteArray.ext
  simp [mkS]
theorem mkS_cons (b : UInt8) (l : List UInt8) : mkS (b :: l) = mkS [b] ++ mkS l := (mkS_app [b] l).symm
theorem bytes1 {w : World} {a : Option Addr} {x : Nat} (h : x < 256) (hs : Sl w a [Value.int .u8 ((x : Nat) : Int)]) : Sl w a ([UInt8.ofNat x].map fun b => Value.int .u8 (b.toNat : Int)) := by
  have e : ([UInt8.ofNat x].map fun b => Value.int .u8 (b.toNat : Int)) = [Value.int .u8 ((x : Nat) : Int)] := by simp; omega
  rw [e]; exact hs
theorem bv_take_succ {l p : List UInt8} {k : Nat} {x : UInt8} (hx : l[k]? = some x) : bv (p ++ l.take k) ++ [Value.int .u8 ((x.toNat : Nat) : Int)] = bv (p ++ l.take (k + 1)) := by
  obtain ⟨h1, h2⟩ := List.getElem?_eq_some_iff.1 hx
  rw [List.take_succ_eq_append_getElem h1, h2, ← List.append_assoc, bv_app (p ++ l.take k)]
  rfl
theorem bv_vs {l : List UInt8} {k : Nat} {x : UInt8} (hx : l[k]? = some x) : (bv l)[k]? = some (Value.int .u8 ((x.toNat : Nat) : Int)) := bv_get hx
end Go.Sy
