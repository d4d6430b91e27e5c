/- Plain: the document's reader of bytes, and what a count or a text that was taken off stood as. No program in sight; no condition. -/
import Derived.Test.YtnhpfhhpochgfaaPTrig
namespace Go.Sy
set_option linter.unusedVariables false

theorem mkS_inj {l m : List UInt8} (h : mkS l = mkS m) : l = m := by
  have : (mkS l).data.toList = (mkS m).data.toList := congrArg (fun s => s.data.toList) h
  exact this
theorem mkS_beq {l m : List UInt8} : ((mkS l).toList == (mkS m).toList) = decide (l = m) := by
  rw [toList_beq]
  by_cases h : l = m
  · subst h; simp
  · have : mkS l ≠ mkS m := fun e => h (mkS_inj e)
    simp [h, this]

/-! ### the number whose groups stand there -/
def q64 (x : Nat) : Nat := x % 18446744073709551616
theorem q64_lt (x : Nat) : q64 x < 18446744073709551616 := by unfold q64; omega
theorem off_step {l : List UInt8} {j k : Nat} {b : UInt8} (hj : j ≤ k) (h1 : 1 ≤ j) (hb : l[j - 1]? = some b) :
    IntKind.u64.wrap (((128 * q64 (val7 (seg l j k)) % 18446744073709551616 : Nat) : Int) + ((b.toNat % 128 : Nat) : Int)) = ((q64 (val7 (seg l (j - 1) k)) : Nat) : Int) := by
  obtain ⟨i, rfl⟩ : ∃ i, j = i + 1 := ⟨j - 1, by omega⟩
  simp only [Nat.add_sub_cancel] at hb ⊢
  rw [seg_step (by omega) hb]
  generalize val7 (seg l (i + 1) k) = v
  generalize b.toNat = y
  unfold q64
  simp only [IntKind.wrap, IntKind.bits, IntKind.signed]
  simp
  omega
theorem off_mul {x : Nat} : IntKind.u64.wrap ((128 : Int) * ((q64 x : Nat) : Int)) = ((128 * q64 x % 18446744073709551616 : Nat) : Int) := by
  simp only [IntKind.wrap, IntKind.bits, IntKind.signed]
  simp
theorem off_hit {l : List UInt8} {n : Nat} (hn : n ≤ l.length) (h : grp (q64 (val7 (seg l 0 n))) = l.take n) : numU l = q64 (val7 (seg l 0 n)) ∧ numN l = n := by
  have hp : grp (q64 (val7 (seg l 0 n))) <+: l := by rw [h]; exact List.take_prefix _ _
  obtain ⟨h1, h2⟩ := num_some (q64_lt _) hp
  refine ⟨h1, ?_⟩
  rw [h2, ← grp_len, h]
  simp; omega
theorem off_none {l : List UInt8} {n : Nat} (hall : ∀ m, 1 ≤ m → m < n → grp (q64 (val7 (seg l 0 m))) ≠ l.take m) (hn : 10 < n ∨ l.length < n) : numU l = 0 ∧ numN l = 0 := by
  apply num_none
  intro u hu hp
  have h1 := ngr_le hu
  have h2 := hp.length_le
  rw [grp_len] at h2
  have e : l.take (ngr u) = grp u := by rw [← grp_len]; exact (List.prefix_iff_eq_take.1 hp).symm
  apply hall (ngr u) (ngr_pos u) (by omega)
  have : seg l 0 (ngr u) = grp u := by simp [seg, e]
  rw [this, val_grp, e]
  unfold q64
  rw [Nat.mod_eq_of_lt hu]
theorem off_succ {l : List UInt8} {n : Nat} (hall : ∀ m, 1 ≤ m → m < n → grp (q64 (val7 (seg l 0 m))) ≠ l.take m) (h : grp (q64 (val7 (seg l 0 n))) ≠ l.take n) : ∀ m, 1 ≤ m → m < n + 1 → grp (q64 (val7 (seg l 0 m))) ≠ l.take m := by
  intro m h1 h2
  by_cases e : m = n
  · subst e; exact h
  · exact hall m h1 (by omega)
theorem num_zero {l : List UInt8} (h : numN l = 0) : numU l = 0 := by rcases num_cases l with h' | h' <;> omega
theorem numN_pos {l : List UInt8} : numN l = 0 ∨ 1 ≤ numN l := by omega

/-! ### readers -/
def rdR (f : Bool) (l : List UInt8) : Rd := if f then none else some l
theorem rdR_nil {f : Bool} {l : List UInt8} {a : Int} (hf : f = true → l = []) (h : cntN l a = 0) : (mCount (rdR f l) a) = (0, none) := by
  unfold rdR
  cases f with
  | true => rfl
  | false => simp [mCount, h]
theorem cntN_nil (a : Int) : cntN [] a = 0 := by have := cntN_le [] a; simpa using this
theorem strN_nil (a : Int) : strN [] a = 0 := by have := strN_le [] a; simpa using this
theorem rc_zero {f : Bool} {l : List UInt8} {a : Int} (h : cntN l a = 0) : mCount (rdR f l) a = (0, none) := by
  cases f with
  | true => rfl
  | false => simp [rdR, mCount, h]
theorem rc_some {f : Bool} {l : List UInt8} {a : Int} (hf : f = true → l = []) (h : ¬ cntN l a = 0) : mCount (rdR f l) a = (cntU l a, some (l.drop (cntN l a))) := by
  cases f with
  | true => rw [hf rfl, cntN_nil] at h; exact absurd rfl h
  | false => simp [rdR, mCount, h]
theorem rs_zero {f : Bool} {l : List UInt8} {a : Int} (h : strN l a = 0) : mStr (rdR f l) a = ([], none) := by
  cases f with
  | true => rfl
  | false => simp [rdR, mStr, h]
theorem rs_some {f : Bool} {l : List UInt8} {a : Int} (hf : f = true → l = []) (h : ¬ strN l a = 0) : mStr (rdR f l) a = (strV l a, some (l.drop (strN l a))) := by
  cases f with
  | true => rw [hf rfl, strN_nil] at h; exact absurd rfl h
  | false => simp [rdR, mStr, h]
theorem rdR_done {f : Bool} {l : List UInt8} : (rdR f l = some []) ↔ (f = false ∧ l.length = 0) := by
  cases f <;> simp [rdR]

theorem done_ff {f : Bool} {l : List UInt8} (hf : (!f) = true) : decide (((l.length : Nat) : Int) = 0) = decide (rdR f l = some []) := by
  have : f = false := by simpa using hf
  subst this
  apply decide_eq_decide.2
  rw [rdR_done]
  constructor
  · intro h; exact ⟨rfl, by omega⟩
  · intro h; omega
theorem done_tt {f : Bool} {l : List UInt8} (hf : (!f) = false) : false = decide (rdR f l = some []) := by
  have : f = true := by simpa using hf
  subst this
  simp [rdR]
theorem cnt_zero {l : List UInt8} {a : Int} (h : numN l = 0 ∨ 2147483647 < numU l ∨ a < (numU l : Int)) : cntU l a = 0 ∧ cntN l a = 0 := by
  unfold cntU cntN
  by_cases h1 : 2147483647 < numU l ∨ a < (numU l : Int)
  · rw [if_pos h1, if_pos h1]; exact ⟨rfl, rfl⟩
  · rw [if_neg h1, if_neg h1]
    have h2 : numN l = 0 := h.resolve_right h1
    exact ⟨num_zero h2, h2⟩
theorem cnt_some {l : List UInt8} {a : Int} (h : ¬ 2147483647 < numU l) (h' : ¬ a < (numU l : Int)) : cntU l a = numU l ∧ cntN l a = numN l := by
  unfold cntU cntN
  have h1 : ¬ (2147483647 < numU l ∨ a < (numU l : Int)) := fun hh => hh.elim h h'
  rw [if_neg h1, if_neg h1]; exact ⟨rfl, rfl⟩
theorem str_zero' {l : List UInt8} {a : Int} (h : cntN l a = 0 ∨ l.length < cntN l a + cntU l a) : strN l a = 0 ∧ strV l a = [] := by
  unfold strN strV; rw [if_pos h, if_pos h]; exact ⟨rfl, rfl⟩
theorem str_some' {l : List UInt8} {a : Int} (h : ¬ cntN l a = 0) (h' : ¬ l.length < cntN l a + cntU l a) : strN l a = cntN l a + cntU l a ∧ strV l a = (l.drop (cntN l a)).take (cntU l a) := by
  have h1 : ¬ (cntN l a = 0 ∨ l.length < cntN l a + cntU l a) := fun hh => hh.elim h h'
  unfold strN strV; rw [if_neg h1, if_neg h1]; exact ⟨rfl, rfl⟩
theorem num_one {x : UInt8} {t : List UInt8} (h : x.toNat ≤ 1) : numU (x :: t) = x.toNat ∧ numN (x :: t) = 1 := by
  have hp : grp x.toNat <+: x :: t := by
    rw [grp_small (by omega)]
    have : UInt8.ofNat x.toNat = x := by simp
    rw [this]; exact ⟨t, rfl⟩
  have := num_some (by omega) hp
  rw [ngr_one (by omega)] at this
  exact this
theorem flag_some {l : List UInt8} {x : UInt8} (hx : l[0]? = some x) (h : x.toNat ≤ 1) : cntU l 1 = x.toNat ∧ cntN l 1 = 1 := by
  cases l with
  | nil => simp at hx
  | cons y t =>
    simp at hx; subst hx
    obtain ⟨h1, h2⟩ := num_one (t := t) h
    have := cnt_some (l := y :: t) (a := 1) (by omega) (by omega)
    omega
theorem flag_none {l : List UInt8} (h : l.length = 0 ∨ ∃ x, l[0]? = some x ∧ 1 < x.toNat) : cntN l 1 = 0 := by
  rcases h with h | ⟨x, hx, h⟩
  · rw [List.eq_nil_of_length_eq_zero h]; exact cntN_nil 1
  · cases l with
    | nil => simp at hx
    | cons y t =>
      simp at hx; subst hx
      rcases num_cases (y :: t) with h' | ⟨h1, h2, h3, hp, h5, h6⟩
      · exact (cnt_zero (.inl h'.2)).2
      · refine (cnt_zero (.inr (.inr ?_))).2
        have hb := pre_get (k := 0) hp (by omega) (b := y) rfl
        rcases Nat.lt_or_ge (numU (y :: t)) 2 with h7 | h7
        · have e1 : ngr (numU (y :: t)) = 1 := ngr_one (by omega)
          rw [hb, dig_last_lt (by omega)] at h
          simp at h
          omega
        · omega

theorem cntN_grp {l : List UInt8} {a : Int} (h : ¬ cntN l a = 0) : ∃ t, l = grp (cntU l a) ++ t ∧ l.drop (cntN l a) = t ∧ cntU l a ≤ 2147483647 ∧ ((cntU l a : Nat) : Int) ≤ a ∧ cntN l a = ngr (cntU l a) := by
  have e1 : ¬ (2147483647 < numU l ∨ a < (numU l : Int)) := fun hh => h (by unfold cntN; rw [if_pos hh])
  have eN : cntN l a = numN l := by unfold cntN; rw [if_neg e1]
  have eU : cntU l a = numU l := by unfold cntU; rw [if_neg e1]
  rw [eN] at h
  rw [eN, eU]
  rcases num_cases l with h' | ⟨h1, h2, h3, ⟨t, ht⟩, h5, h6⟩
  · exact absurd h'.2 h
  · refine ⟨t, ht.symm, ?_, by omega, by omega, h2⟩
    rw [h2]
    have e3 : l.drop (ngr (numU l)) = (grp (numU l) ++ t).drop (ngr (numU l)) := by rw [ht]
    rw [e3, ← grp_len, List.drop_left]
theorem mCount_some {r : Rd} {a : Int} {t : List UInt8} (h : (mCount r a).2 = some t) : r = some (grp (mCount r a).1 ++ t) ∧ (mCount r a).1 ≤ 2147483647 ∧ (((mCount r a).1 : Nat) : Int) ≤ a := by
  cases r with
  | none => simp [mCount] at h
  | some l =>
    by_cases h0 : cntN l a = 0
    · simp [mCount, h0] at h
    · obtain ⟨t', h1, h2, h3, h4, _⟩ := cntN_grp h0
      have e : mCount (some l) a = (cntU l a, some (l.drop (cntN l a))) := by simp [mCount, h0]
      rw [e] at h ⊢
      simp only [Option.some.injEq] at h
      rw [h2] at h
      subst h
      exact ⟨by rw [← h1], h3, h4⟩
theorem mStr_some {r : Rd} {a : Int} {t : List UInt8} (h : (mStr r a).2 = some t) : r = some (grp (mStr r a).1.length ++ (mStr r a).1 ++ t) ∧ (mStr r a).1.length ≤ 2147483647 ∧ (((mStr r a).1.length : Nat) : Int) ≤ a := by
  cases r with
  | none => simp [mStr] at h
  | some l =>
    by_cases h0 : strN l a = 0
    · simp [mStr, h0] at h
    · have e : mStr (some l) a = (strV l a, some (l.drop (strN l a))) := by simp [mStr, h0]
      rw [e] at h ⊢
      have hc : ¬ (cntN l a = 0 ∨ l.length < cntN l a + cntU l a) := fun hh => h0 (by unfold strN; rw [if_pos hh])
      have eN : strN l a = cntN l a + cntU l a := by unfold strN; rw [if_neg hc]
      have eV : strV l a = (l.drop (cntN l a)).take (cntU l a) := by unfold strV; rw [if_neg hc]
      obtain ⟨t', h1, h2, h3, h4, h5⟩ := cntN_grp (a := a) (l := l) (fun hh => hc (.inl hh))
      have hlen : (strV l a).length = cntU l a := by rw [eV]; simp; omega
      simp only [Option.some.injEq] at h
      refine ⟨?_, by rw [hlen]; exact h3, by rw [hlen]; exact h4⟩
      rw [hlen, eV, ← h, eN, ← List.drop_drop, h2, List.append_assoc, List.take_append_drop, ← h1]

/-! ### events, as bytes -/
def evSer (e : Ev) : List UInt8 := grp e.id.size ++ e.id.data.toList ++ grp e.pipe.toNat
def Fine (e : Ev) : Prop := e.id.size ≤ 2147483647 ∧ 0 ≤ e.pipe ∧ e.pipe ≤ 2147483647
theorem fold_ser (es : List Ev) : ∀ b : List UInt8, (∀ e ∈ es, Fine e) → es.foldl (fun b e => cntL (strL b e.id.data.toList) e.pipe) b = b ++ es.flatMap evSer := by
  induction es with
  | nil => intro b _; simp
  | cons e es ih =>
    intro b h
    obtain ⟨h1, h2, h3⟩ := h e (by simp)
    rw [List.foldl_cons, ih _ (fun x hx => h x (by simp [hx])), List.flatMap_cons]
    have e1 : strL b e.id.data.toList = b ++ grp e.id.size ++ e.id.data.toList := by unfold strL; rw [if_neg (by rw [← size_eq]; omega), size_eq]
    have e2 : ∀ b, cntL b e.pipe = b ++ grp e.pipe.toNat := by intro b; unfold cntL; rw [if_neg (by omega)]
    rw [e1, e2]
    simp [evSer]
theorem evBytes_ser {xs : List Ev} (hn : xs.length ≤ 2147483647) (h : ∀ e ∈ xs, Fine e) : evBytes xs = grp xs.length ++ xs.flatMap evSer := by
  unfold evBytes evB
  rw [List.take_length, fold_ser xs _ h]
  unfold cntL
  rw [if_neg (by omega)]
  simp
theorem ldP_ser : ∀ (n : Nat) (r : Rd) (xs ys : List Ev) (t : List UInt8), xs.length + n ≤ 8 → ldP n r xs = some (some t, ys) →
    ∃ es, ys = xs ++ es ∧ es.length = n ∧ (∀ e ∈ es, Fine e) ∧ r = some (es.flatMap evSer ++ t)
  | 0, r, xs, ys, t, _, h => by
    simp only [ldP, Option.some.injEq, Prod.mk.injEq] at h
    obtain ⟨rfl, rfl⟩ := h
    exact ⟨[], by simp, rfl, by simp, by simp⟩
  | n + 1, r, xs, ys, t, hn, h => by
    rw [ldP] at h
    split at h
    · rename_i hc
      have et : takeL xs (mkS (mStr r 64).1) (mCount (mStr r 64).2 2147483647).1 = xs ++ [⟨mkS (mStr r 64).1, (mCount (mStr r 64).2 2147483647).1⟩] := by
        unfold takeL; rw [if_pos hc, if_neg (by omega)]
      rw [et] at h
      obtain ⟨es, h1, h2, h3, h4⟩ := ldP_ser n _ _ ys t (by simp; omega) h
      obtain ⟨c1, c2, c3⟩ := mCount_some h4
      obtain ⟨s1, s2, s3⟩ := mStr_some c1
      refine ⟨⟨mkS (mStr r 64).1, (mCount (mStr r 64).2 2147483647).1⟩ :: es, by rw [h1]; simp, by simp [h2], ?_, ?_⟩
      · intro e he
        rcases List.mem_cons.1 he with rfl | he
        · exact ⟨by simp only [mkS_size]; exact s2, Int.natCast_nonneg _, by simp only; omega⟩
        · exact h3 e he
      · refine s1.trans ?_
        rw [List.flatMap_cons]
        congr 1
        simp only [evSer, mkS_size, mkS_toList, Int.toNat_natCast, List.append_assoc]
    · cases h
theorem mCount_above {r : Rd} {a : Int} (ha : 0 ≤ a) : (((mCount r a).1 : Nat) : Int) ≤ a := by
  cases r with
  | none => simpa [mCount] using ha
  | some l =>
    by_cases h0 : cntN l a = 0
    · simpa [mCount, h0] using ha
    · obtain ⟨_, _, _, _, h4, _⟩ := cntN_grp h0
      simpa [mCount, h0] using h4
/-- what is loaded has just the bytes of which it is loaded -/
theorem load_bytes {bs : List UInt8} {xs : List Ev} (h : loadE bs = some xs) : evBytes xs = bs := by
  have hN := mCount_above (r := rdP (mkS bs) 0) (a := 8) (by decide)
  unfold loadE at h
  split at h
  · rename_i r ys hl
    split at h
    · rename_i hr
      subst hr
      simp only [Option.some.injEq] at h
      subst h
      obtain ⟨es, h1, h2, h3, h4⟩ := ldP_ser _ _ _ _ _ (by simp; omega) hl
      simp only [List.nil_append] at h1
      subst h1
      obtain ⟨c1, c2, c3⟩ := mCount_some h4
      rw [rdP_zero] at c1
      rw [evBytes_ser (by omega) h3, h2]
      have := (Option.some.inj c1).symm
      rw [List.append_nil] at this
      exact this
    · cases h
  · cases h
theorem rs_len (f : Bool) (l : List UInt8) (a : Int) : (mStr (rdR f l) a).1.length ≤ l.length := by
  apply mStr_le
  intro m hm
  cases f with
  | true => cases hm
  | false => cases hm; exact Nat.le_refl _
/-! the document's events -/
theorem word_len {s : ByteArray} (h : s.size < 1 ∨ 64 < s.size) : isWord s = false := by
  unfold isWord
  rcases h with h | h
  · have : decide (0 < s.size) = false := decide_eq_false (by omega)
    rw [this]; simp
  · have : decide (s.size ≤ 64) = false := decide_eq_false (by omega)
    rw [this]; simp
theorem word_ok {s : ByteArray} {k : Nat} (hall : ∀ j, j < k → ∀ c, s.data.toList[j]? = some c → wOk c = true) (hk : s.size ≤ k) (h1 : ¬ s.size < 1) (h2 : ¬ 64 < s.size) : isWord s = true := by
  rw [word_all hall hk]
  simp; omega
theorem seen_iff {xs : List Ev} {id : ByteArray} : (seenE xs id).isSome = true ↔ 0 ≤ fidx (sameId id) xs := by
  rcases fidx_range (p := sameId id) (l := xs) with h | ⟨k, x, hk, hx, hp⟩
  · rw [seen_none (by omega)]; simp [h]
  · rw [seen_some hk hx]; simp [hk]
theorem takeC_63 {xs : List Ev} {id : ByteArray} {p : Int} (h : (!isWord id) = true) : takeC xs id p = 63 := by unfold takeC; rw [if_pos (by simpa using h)]
theorem takeC_1 {xs : List Ev} {id : ByteArray} {p : Int} (h : (!isWord id) = false) (h' : p < 0 ∨ 2147483647 < p) : takeC xs id p = 1 := by
  unfold takeC; rw [if_neg (by simpa using h), if_pos h']
theorem takeC_6 {xs : List Ev} {id : ByteArray} {p : Int} (h : (!isWord id) = false) (h1 : ¬ p < 0) (h2 : ¬ 2147483647 < p) (h' : (seenE xs id).isSome = true) : takeC xs id p = 6 := by
  unfold takeC; rw [if_neg (by simpa using h), if_neg (by omega), if_pos (seen_iff.1 h')]
theorem takeC_0 {xs : List Ev} {id : ByteArray} {p : Int} (h : (!isWord id) = false) (h1 : ¬ p < 0) (h2 : ¬ 2147483647 < p) (h' : (seenE xs id).isSome = false) : takeC xs id p = 0 := by
  unfold takeC
  have h3 : ¬ 0 ≤ fidx (sameId id) xs := fun hh => by rw [seen_iff.2 hh] at h'; cases h'
  rw [if_neg (by simpa using h), if_neg (by omega), if_neg h3]
theorem takeL_ne {xs : List Ev} {id : ByteArray} {p : Int} (h : takeC xs id p ≠ 0) : takeL xs id p = xs := by unfold takeL; rw [if_neg h]
theorem takeL_room {xs : List Ev} {id : ByteArray} {p : Int} (h : takeC xs id p = 0) (h8 : xs.length ≠ 8) : takeL xs id p = xs ++ [⟨id, p⟩] := by unfold takeL; rw [if_pos h, if_neg h8]
theorem takeL_full {xs : List Ev} {id : ByteArray} {p : Int} (h : takeC xs id p = 0) (h8 : xs.length = 8) : takeL xs id p = (xs ++ [(⟨id, p⟩ : Ev)]).drop 1 := by
  unfold takeL
  rw [if_pos h, if_pos h8, List.drop_append_of_le_length (by omega)]
theorem loadR (bs : List UInt8) : loadE bs = match ldP (mCount (rdR false bs) 8).1 (mCount (rdR false bs) 8).2 [] with
    | some (r, xs) => if r = some [] then some xs else none
    | none => none := by
  unfold loadE
  rw [rdP_zero]
  have e : rdR false bs = some bs := rfl
  rw [e]
  cases ldP (mCount (some bs) 8).1 (mCount (some bs) 8).2 [] with
  | none => rfl
  | some p =>
    obtain ⟨r, xs⟩ := p
    by_cases h : r = some [] <;> simp [h]
theorem ldr_stop {bs : List UInt8} (h : ldP (mCount (rdR false bs) 8).1 (mCount (rdR false bs) 8).2 [] = none) : loadE bs = none := by
  rw [loadR, h]
theorem ldr_end {bs : List UInt8} {k : Nat} {r : Rd} {xs : List Ev} (hk : (mCount (rdR false bs) 8).1 ≤ k) (h : ldP ((mCount (rdR false bs) 8).1 - k) r xs = ldP (mCount (rdR false bs) 8).1 (mCount (rdR false bs) 8).2 []) :
    loadE bs = if r = some [] then some xs else none := by
  have e : (mCount (rdR false bs) 8).1 - k = 0 := by omega
  rw [e, ldP] at h
  rw [loadR, ← h]
end Go.Sy
