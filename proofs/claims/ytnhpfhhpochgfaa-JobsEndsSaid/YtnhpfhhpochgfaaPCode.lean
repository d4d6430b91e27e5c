/- Plain: groups of seven bits, numbers in them, readers of bytes. No program in sight; no condition. -/
import Derived.Test.YtnhpfhhpochgfaaPlain
namespace Go.Sy
set_option linter.unusedVariables false

def bv (l : List UInt8) : List Value := l.map fun b => Value.int .u8 (b.toNat : Int)
def mkS (l : List UInt8) : ByteArray := ⟨l.toArray⟩
theorem bv_len (l : List UInt8) : (bv l).length = l.length := by simp [bv]
theorem bv_app (l m : List UInt8) : bv (l ++ m) = bv l ++ bv m := by simp [bv]
theorem bv_one (l : List UInt8) : ∀ u ∈ bv l, u.oneCell' = true := by
  intro u hu
  obtain ⟨b, _, rfl⟩ := List.mem_map.1 hu
  rfl
theorem bv_get {l : List UInt8} {i : Nat} {b : UInt8} (h : l[i]? = some b) : (bv l)[i]? = some (Value.int .u8 (b.toNat : Int)) := by simp [bv, h]
theorem bv_drop (l : List UInt8) (k : Nat) : (bv l).drop (k * 1) = bv (l.drop k) := by simp [bv]
theorem bv_take (l : List UInt8) (k : Nat) : (bv l).take (k * 1) = bv (l.take k) := by simp [bv]
theorem bv_set {l : List UInt8} {k : Nat} (y : UInt8) (h : k < l.length) : spl (bv l) k [.int .u8 (y.toNat : Int)] = bv (l.set k y) := map_set _ l k y h
theorem bv_str (s : ByteArray) : Lib.strCells s = bv s.data.toList := rfl
theorem mkS_size (l : List UInt8) : (mkS l).size = l.length := by simp [mkS, ByteArray.size]
theorem mkS_toList (l : List UInt8) : (mkS l).data.toList = l := rfl
theorem mkS_eta (s : ByteArray) : mkS s.data.toList = s := rfl
theorem size_eq (s : ByteArray) : s.size = s.data.toList.length := by rw [Array.length_toList]; rfl

/-! ### lengths in bits -/
def blen (u : Nat) : Nat := if u = 0 then 0 else Nat.log2 u + 1
theorem blen_lt_iff (u k : Nat) : blen u ≤ k ↔ u < 2 ^ k := by
  unfold blen
  split
  · rename_i h; subst h; simp [Nat.two_pow_pos]
  · rename_i h
    rw [Nat.add_one_le_iff, Nat.log2_lt h]
theorem blen_le64 {u : Nat} (h : u < 18446744073709551616) : blen u ≤ 64 := (blen_lt_iff u 64).2 h
theorem blen_div (u k : Nat) (h : 2 ^ k ≤ u) : blen u = k + blen (u / 2 ^ k) := by
  have h2 : ∀ m, blen u ≤ m ↔ k + blen (u / 2 ^ k) ≤ m := by
    intro m
    rw [blen_lt_iff]
    by_cases hm : m < k
    · constructor
      · intro hu
        have : 2 ^ m < 2 ^ k := Nat.pow_lt_pow_right (by decide) hm
        omega
      · intro hh; omega
    · obtain ⟨d, rfl⟩ : ∃ d, m = k + d := ⟨m - k, by omega⟩
      rw [Nat.add_le_add_iff_left, blen_lt_iff, Nat.div_lt_iff_lt_mul (Nat.two_pow_pos k), Nat.pow_add, Nat.mul_comm]
  have a := (h2 (blen u)).1 (Nat.le_refl _)
  have b := (h2 (k + blen (u / 2 ^ k))).2 (Nat.le_refl _)
  omega
theorem blen32 {u : Nat} (h : 4294967296 ≤ u) : blen u = 32 + blen (u / 4294967296) := blen_div u 32 h
theorem blen16 {u : Nat} (h : 65536 ≤ u) : blen u = 16 + blen (u / 65536) := blen_div u 16 h
theorem blen8 {u : Nat} (h : 256 ≤ u) : blen u = 8 + blen (u / 256) := blen_div u 8 h
def len8tab : ByteArray := ⟨#[0, 1, 2, 2, 3, 3, 3, 3, 4, 4, 4, 4, 4, 4, 4, 4, 5, 5, 5, 5, 5, 5, 5, 5, 5, 5, 5, 5, 5, 5, 5, 5, 6, 6, 6, 6, 6, 6, 6, 6, 6, 6, 6, 6, 6, 6, 6, 6, 6, 6, 6, 6, 6, 6, 6, 6, 6, 6, 6, 6, 6, 6, 6, 6, 7, 7, 7, 7, 7, 7, 7, 7, 7, 7, 7, 7, 7, 7, 7, 7, 7, 7, 7, 7, 7, 7, 7, 7, 7, 7, 7, 7, 7, 7, 7, 7, 7, 7, 7, 7, 7, 7, 7, 7, 7, 7, 7, 7, 7, 7, 7, 7, 7, 7, 7, 7, 7, 7, 7, 7, 7, 7, 7, 7, 7, 7, 7, 7, 8, 8, 8, 8, 8, 8, 8, 8, 8, 8, 8, 8, 8, 8, 8, 8, 8, 8, 8, 8, 8, 8, 8, 8, 8, 8, 8, 8, 8, 8, 8, 8, 8, 8, 8, 8, 8, 8, 8, 8, 8, 8, 8, 8, 8, 8, 8, 8, 8, 8, 8, 8, 8, 8, 8, 8, 8, 8, 8, 8, 8, 8, 8, 8, 8, 8, 8, 8, 8, 8, 8, 8, 8, 8, 8, 8, 8, 8, 8, 8, 8, 8, 8, 8, 8, 8, 8, 8, 8, 8, 8, 8, 8, 8, 8, 8, 8, 8, 8, 8, 8, 8, 8, 8, 8, 8, 8, 8, 8, 8, 8, 8, 8, 8, 8, 8, 8, 8, 8, 8, 8, 8, 8, 8, 8, 8, 8, 8]⟩
theorem len8_all : ∀ x : Fin 256, len8tab[(x.val : Nat)]? = some (UInt8.ofNat (blen x.val)) := by decide +kernel
theorem len8_get {x : Nat} (h : x < 256) : len8tab[((x : Nat) : Int).toNat]? = some (UInt8.ofNat (blen x)) := len8_all ⟨x, h⟩
theorem len8_toNat {x : Nat} (h : x < 256) : (UInt8.ofNat (blen x)).toNat = blen x := by
  have := (blen_lt_iff x 8).2 h
  rw [UInt8.toNat_ofNat']
  omega
theorem shr_nat (u k : Nat) : ((u : Nat) : Int) / 2 ^ ((k : Nat) : Int).toNat = ((u / 2 ^ k : Nat) : Int) := by
  simp
theorem quo_nat {x y : Nat} (hx : x ≤ 9223372036854775807) : IntKind.i64.wrap (((x : Nat) : Int).tdiv ((y : Nat) : Int)) = ((x / y : Nat) : Int) := by
  have e : ((x : Nat) : Int).tdiv ((y : Nat) : Int) = ((x / y : Nat) : Int) := by
    rw [Int.tdiv_eq_ediv_of_nonneg (by omega)]; rfl
  rw [e]
  have : x / y ≤ x := Nat.div_le_self x y
  generalize x / y = z at *
  exact w64 (by omega) (by omega) rfl

/-! ### groups -/
def ngr (u : Nat) : Nat := if (blen u + 7 - 1) / 7 ≤ 1 then 1 else (blen u + 7 - 1) / 7
theorem ngr_pos (u : Nat) : 1 ≤ ngr u := by unfold ngr; split <;> omega
theorem ngr_le {u : Nat} (h : u < 18446744073709551616) : ngr u ≤ 10 := by have := blen_le64 h; unfold ngr; split <;> omega
theorem ngr_le_iff (u k : Nat) : ngr u ≤ k + 1 ↔ u < 128 ^ (k + 1) := by
  have e : 128 ^ (k + 1) = 2 ^ (7 * (k + 1)) := by rw [Nat.pow_mul]
  rw [e, ← blen_lt_iff]
  unfold ngr
  split <;> omega
theorem ngr_one {u : Nat} (h : u < 128) : ngr u = 1 := by
  have := (ngr_le_iff u 0).2 (by simpa using h)
  have := ngr_pos u
  omega
theorem ngr_more {u : Nat} (h : 128 ≤ u) : ngr u = ngr (u / 128) + 1 := by
  have key : ∀ k, ngr u ≤ k + 1 ↔ ngr (u / 128) + 1 ≤ k + 1 := by
    intro k
    rw [ngr_le_iff]
    cases k with
    | zero =>
      have := ngr_pos (u / 128)
      constructor
      · intro hu; simp at hu; omega
      · intro hh; omega
    | succ k =>
      have h2 := ngr_le_iff (u / 128) k
      have : u / 128 < 128 ^ (k + 1) ↔ u < 128 ^ (k + 1 + 1) := by
        rw [Nat.div_lt_iff_lt_mul (by decide), ← Nat.pow_succ]
      omega
  have p := ngr_pos u
  have a := (key (ngr u - 1)).1 (by omega)
  have b := (key (ngr (u / 128))).2 (Nat.le_refl _)
  omega
/-- the groups of a number, the lowest first -/
def grp (u : Nat) : List UInt8 := if h : u < 128 then [UInt8.ofNat u] else UInt8.ofNat (128 + u % 128) :: grp (u / 128)
termination_by u
decreasing_by omega
theorem grp_small {u : Nat} (h : u < 128) : grp u = [UInt8.ofNat u] := by unfold grp; simp [h]
theorem grp_more {u : Nat} (h : 128 ≤ u) : grp u = UInt8.ofNat (128 + u % 128) :: grp (u / 128) := by
  rw [grp]; simp [Nat.not_lt.2 h]
theorem grp_len (u : Nat) : (grp u).length = ngr u := by
  induction u using Nat.strongRecOn with
  | _ u ih =>
    by_cases h : u < 128
    · rw [grp_small h, ngr_one h]; rfl
    · rw [grp_more (by omega), ngr_more (by omega), List.length_cons, ih (u / 128) (by omega)]
/-- the k-th of n groups -/
def dig (u k n : Nat) : UInt8 := if k + 1 = n then UInt8.ofNat (u / 128 ^ k % 128) else UInt8.ofNat (128 + u / 128 ^ k % 128)
def digs (u n k : Nat) : List UInt8 := (List.range k).map fun j => dig u j n
theorem digs_succ (u n k : Nat) : digs u n (k + 1) = digs u n k ++ [dig u k n] := by simp [digs, List.range_succ]
theorem digs_len (u n k : Nat) : (digs u n k).length = k := by simp [digs]
theorem digs_all (u : Nat) : digs u (ngr u) (ngr u) = grp u := by
  induction u using Nat.strongRecOn with
  | _ u ih =>
    by_cases h : u < 128
    · rw [ngr_one h, grp_small h]
      simp [digs, dig, Nat.mod_eq_of_lt h]
    · have h' : 128 ≤ u := by omega
      rw [ngr_more h', grp_more h', ← ih (u / 128) (by omega)]
      unfold digs
      rw [List.range_succ_eq_map, List.map_cons, List.map_map]
      have p := ngr_pos (u / 128)
      congr 1
      · simp [dig]; omega
      · apply List.map_congr_left
        intro j _
        simp only [Function.comp, dig]
        have e : u / 128 / 128 ^ j = u / 128 ^ (j + 1) := by rw [Nat.div_div_eq_div_mul, Nat.pow_succ, Nat.mul_comm]
        rw [e]
        by_cases hj : j + 1 = ngr (u / 128) <;> simp [hj]
/-! ### bits of bytes -/
theorem or128_all : ∀ x : Fin 256, bits .or .u8 ((x.val : Nat) : Int) 128 = ((128 + x.val % 128 : Nat) : Int) := by decide +kernel
theorem or128 (y : Nat) : bits .or .u8 ((y % 256 : Nat) : Int) 128 = ((128 + y % 128 : Nat) : Int) := by
  have h := or128_all ⟨y % 256, by omega⟩
  have e : y % 256 % 128 = y % 128 := by omega
  simp only [e] at h
  exact h
theorem not128_all : ∀ x : Fin 256, bits .andNot .u8 ((x.val : Nat) : Int) 128 = ((x.val % 128 : Nat) : Int) := by decide +kernel
theorem not128 (y : Nat) : bits .andNot .u8 ((128 + y % 128 : Nat) : Int) 128 = ((y % 128 : Nat) : Int) := by
  have h := not128_all ⟨128 + y % 128, by omega⟩
  have e : (128 + y % 128) % 128 = y % 128 := by omega
  simp only [e] at h
  exact h
theorem wrap8_mod (y : Nat) : IntKind.u8.wrap ((y : Nat) : Int) = ((y % 256 : Nat) : Int) := by rw [IntKind.wrap_u8]; omega
theorem shr_grp (u k : Nat) : ((u : Nat) : Int) / 2 ^ ((7 * k : Nat) : Int).toNat = ((u / 128 ^ k : Nat) : Int) := by
  have e : (128 : Nat) ^ k = 2 ^ (7 * k) := by rw [Nat.pow_mul]
  rw [e]
  exact shr_nat u (7 * k)
theorem lay_last {u k n : Nat} {bs : List UInt8} (h : k + 1 = n) : bv (bs ++ digs u n k) ++ [Value.int .u8 ((u / 128 ^ k % 128 : Nat) : Int)] = bv (bs ++ digs u n (k + 1)) := by
  rw [digs_succ, ← List.append_assoc, bv_app (bs ++ digs u n k)]
  congr 1
  simp [bv, dig, h]
  omega
theorem lay_more {u k n : Nat} {bs : List UInt8} (h : ¬ k + 1 = n) : bv (bs ++ digs u n k) ++ [Value.int .u8 ((128 + u / 128 ^ k % 128 : Nat) : Int)] = bv (bs ++ digs u n (k + 1)) := by
  rw [digs_succ, ← List.append_assoc, bv_app (bs ++ digs u n k)]
  congr 1
  simp [bv, dig, h]
  omega
theorem lay_len {bs : List UInt8} {u : Nat} {s : ByteArray} : (bs ++ grp u ++ s.data.toList).length = bs.length + ngr u + s.size := by
  rw [List.length_append, List.length_append, grp_len, size_eq]
/-- what a count lays behind bytes -/
def cntL (bs : List UInt8) (n : Int) : List UInt8 := if n < 0 ∨ 2147483647 < n then bs else bs ++ grp n.toNat
def strL (bs : List UInt8) (s : List UInt8) : List UInt8 := if 2147483647 < s.length then bs else bs ++ grp s.length ++ s
theorem cntL_len (bs : List UInt8) (n : Int) : (cntL bs n).length ≤ bs.length + 10 := by
  unfold cntL
  split
  · omega
  · have := ngr_le (u := n.toNat) (by omega)
    rw [List.length_append, grp_len]
    omega
theorem strL_len (bs s : List UInt8) : (strL bs s).length ≤ bs.length + 10 + s.length := by
  unfold strL
  split
  · omega
  · have := ngr_le (u := s.length) (by omega)
    rw [List.length_append, List.length_append, grp_len]
    omega
end Go.Sy
